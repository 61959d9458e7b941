/- Contracts: checks of lists, the program's (printed by mkb.py). -/
import Derived.Test.YtbdbnpnichkcjaaA
namespace Go.Proofs.Ytbdbnpnichkcjaa
open Go.RowKit
def R46 (a0 : Int) (x : TFeCable) (S : SpecF) (Fr : FuncId → List AV → Nat → List AV → Prop) (Sq : FuncId → List AV → List (List AV) → List (List AV) → Prop) (Q : AV → List (List AV) → Prop) : Prop :=
  ∃ b0, S (42 : Nat) [x.Core.av, AV.int IntKind.i64 (1 : Int), AV.int IntKind.i64 (1000000 : Int)] [] (AV.bool b0) [] ∧ ((!b0) = true → Q (AV.int IntKind.i64 (7 : Int)) []) ∧ ((!b0) = false → ∃ b4, S (42 : Nat) [x.Earth.av, AV.int IntKind.i64 (1 : Int), AV.int IntKind.i64 (1000000 : Int)] [] (AV.bool b4) [] ∧ ((!b4) = true → Q (AV.int IntKind.i64 (7 : Int)) []) ∧ ((!b4) = false → ∃ b8, S (43 : Nat) [AV.int IntKind.i64 x.Rated, AV.int IntKind.i64 (1 : Int), AV.int IntKind.i64 (100000000 : Int)] [] (AV.bool b8) [] ∧ ((!b8) = true → Q (AV.int IntKind.i64 (7 : Int)) []) ∧ ((!b8) = false → Q (AV.int IntKind.i64 (0 : Int)) [])))
theorem r46 (a0 : Int) (x : TFeCable) (S : SpecF) (Fr : FuncId → List AV → Nat → List AV → Prop) (Sq : FuncId → List AV → List (List AV) → List (List AV) → Prop) (Q : AV → List (List AV) → Prop) : awpF Try.prog (mkS Try.prog S Fr Sq ⟨[], [], [], [], []⟩ 0) 0 ⟨[1, 3, 4, 20], [], [], []⟩ Try.f46 [.int .i64 a0, x.av] [] Q = R46 a0 x S Fr Sq Q := by kernel_rfl
theorem s46 (a0 : Int) (x : TFeCable) (v : AV) (O : List (List AV)) (h : R46 a0 x (SpecOf Try.prog) (FreshOf Try.prog) (SeqOf Try.prog) (fun r O' => r = v ∧ O' = O)) : SpecOf Try.prog 46 [.int .i64 a0, x.av] [] v O :=
  spec_by (boxes := []) mixed (by exact trivial) Try.func46 Try.call46 rfl rfl rfl (Nat.le_of_ble_eq_true rfl) (r46 a0 x (SpecOf Try.prog) (FreshOf Try.prog) (SeqOf Try.prog) _) h
theorem c46 (i : Nat) (x : TFeCable) : Sp 46 [.int .i64 i, x.av] [] (.int .i64 (cableS i x)) [] := s46 i x _ _ (by
  refine ⟨_, c42 _ _ _, fun h1 => ⟨?_, rfl⟩, fun h1 => ⟨_, c42 _ _ _, fun h2 => ⟨?_, rfl⟩, fun h2 => ⟨_, c43 _ _ _, fun h3 => ⟨?_, rfl⟩, fun h3 => ⟨?_, rfl⟩⟩⟩⟩ <;> simp_all [cableS])
def R97 (p : TFePoint) (S : SpecF) (Fr : FuncId → List AV → Nat → List AV → Prop) (Sq : FuncId → List AV → List (List AV) → List (List AV) → Prop) (Q : AV → List (List AV) → Prop) : Prop :=
  ∃ b0, S (43 : Nat) [AV.int IntKind.i64 p.Current, AV.int IntKind.i64 (1 : Int), AV.int IntKind.i64 (100000000 : Int)] [] (AV.bool b0) [] ∧ ((!b0) = true → Q (AV.bool true) []) ∧ ((!b0) = false → ∃ b4, S (42 : Nat) [p.Melt.av, AV.int IntKind.i64 (1 : Int), AV.int IntKind.i64 (100000000 : Int)] [] (AV.bool b4) [] ∧ Q (AV.bool !b4) [])
theorem r97 (p : TFePoint) (S : SpecF) (Fr : FuncId → List AV → Nat → List AV → Prop) (Sq : FuncId → List AV → List (List AV) → List (List AV) → Prop) (Q : AV → List (List AV) → Prop) : awpF Try.prog (mkS Try.prog S Fr Sq ⟨[], [], [], [], []⟩ 0) 0 ⟨[0, 1, 2], [], [], []⟩ Try.f97 [p.av] [] Q = R97 p S Fr Sq Q := by kernel_rfl
theorem s97 (p : TFePoint) (v : AV) (O : List (List AV)) (h : R97 p (SpecOf Try.prog) (FreshOf Try.prog) (SeqOf Try.prog) (fun r O' => r = v ∧ O' = O)) : SpecOf Try.prog 97 [p.av] [] v O :=
  spec_by (boxes := []) mixed (by exact trivial) Try.func97 Try.call97 rfl rfl rfl (Nat.le_of_ble_eq_true rfl) (r97 p (SpecOf Try.prog) (FreshOf Try.prog) (SeqOf Try.prog) _) h
theorem c97 (p : TFePoint) : Sp 97 [p.av] [] (.bool (wildP p)) [] := s97 p _ _ (by
  refine ⟨_, c43 _ _ _, fun h1 => ⟨?_, rfl⟩, fun h1 => ⟨_, c42 _ _ _, ?_, rfl⟩⟩ <;> simp_all [wildP])
def R101 (b : TEncl) (S : SpecF) (Fr : FuncId → List AV → Nat → List AV → Prop) (Sq : FuncId → List AV → List (List AV) → List (List AV) → Prop) (Q : AV → List (List AV) → Prop) : Prop :=
  ∃ b0, S (42 : Nat) [b.av, AV.int IntKind.i64 (0 : Int), AV.int IntKind.i64 (1000000 : Int)] [] (AV.bool b0) [] ∧ Q (AV.bool !b0) []
theorem r101 (b : TEncl) (S : SpecF) (Fr : FuncId → List AV → Nat → List AV → Prop) (Sq : FuncId → List AV → List (List AV) → List (List AV) → Prop) (Q : AV → List (List AV) → Prop) : awpF Try.prog (mkS Try.prog S Fr Sq ⟨[], [], [], [], []⟩ 0) 0 ⟨[0, 1, 2], [], [], []⟩ Try.f101 [b.av] [] Q = R101 b S Fr Sq Q := by kernel_rfl
theorem s101 (b : TEncl) (v : AV) (O : List (List AV)) (h : R101 b (SpecOf Try.prog) (FreshOf Try.prog) (SeqOf Try.prog) (fun r O' => r = v ∧ O' = O)) : SpecOf Try.prog 101 [b.av] [] v O :=
  spec_by (boxes := []) mixed (by exact trivial) Try.func101 Try.call101 rfl rfl rfl (Nat.le_of_ble_eq_true rfl) (r101 b (SpecOf Try.prog) (FreshOf Try.prog) (SeqOf Try.prog) _) h
theorem c101 (b : TEncl) : Sp 101 [b.av] [] (.bool (wildE b)) [] := s101 b _ _ ⟨_, c42 _ _ _, rfl, rfl⟩
def R122 (s : List TFePoint) (S : SpecF) (Fr : FuncId → List AV → Nat → List AV → Prop) (Sq : FuncId → List AV → List (List AV) → List (List AV) → Prop) (Q : AV → List (List AV) → Prop) : Prop :=
  ∃ (I0 : Nat → List AV → Prop), (∃ m2, I0 m2 [AV.int IntKind.i64 (0 : Int)]) ∧ ∀ (m2 : Nat) (n3 : Int), I0 m2 [AV.int IntKind.i64 n3] → (decide (n3 < (↑(List.map TFePoint.av s).length : Int)) = true → ∃ n7 n8 n9, ((0 : Int) ≤ n3 ∧ (3 : Nat) = (3 : Nat) ∧ (List.map TFePoint.av s)[n3.toNat]? = some (AV.agg [AV.int IntKind.i64 n7, AV.int IntKind.i64 n8, AV.int IntKind.i64 n9])) ∧ ∃ b11, S (97 : FuncId) [AV.agg [AV.int IntKind.i64 n7, AV.int IntKind.i64 n8, AV.int IntKind.i64 n9]] [] (AV.bool b11) [] ∧ (b11 = true → Q (AV.int IntKind.i64 n3) []) ∧ (b11 = false → ∃ k15, k15 < m2 ∧ I0 k15 [AV.int IntKind.i64 (IntKind.i64.wrap (n3 + (1 : Int)))])) ∧ (decide (n3 < (↑(List.map TFePoint.av s).length : Int)) = false → Q (AV.int IntKind.i64 (-1 : Int)) [])
theorem r122 (s : List TFePoint) (S : SpecF) (Fr : FuncId → List AV → Nat → List AV → Prop) (Sq : FuncId → List AV → List (List AV) → List (List AV) → Prop) (Q : AV → List (List AV) → Prop) : awpF Try.prog (mkS Try.prog S Fr Sq ⟨[], [], [], [], []⟩ 0) 0 ⟨[0, 1, 4, 5, 7, 8, 9, 16], [⟨2, [(8, .int .i64 0)], [], [], [], []⟩], [], []⟩ Try.f122 [.slc 3 (List.map TFePoint.av s), .fn 97 [] []] [] Q = R122 s S Fr Sq Q := by kernel_rfl
theorem s122 (s : List TFePoint) (v : AV) (O : List (List AV)) (h : R122 s (SpecOf Try.prog) (FreshOf Try.prog) (SeqOf Try.prog) (fun r O' => r = v ∧ O' = O)) : SpecOf Try.prog 122 [.slc 3 (List.map TFePoint.av s), .fn 97 [] []] [] v O :=
  spec_by (boxes := []) mixed (by exact trivial) Try.func122 Try.call122 rfl rfl rfl (Nat.le_of_ble_eq_true rfl) (r122 s (SpecOf Try.prog) (FreshOf Try.prog) (SeqOf Try.prog) _) h
theorem c122 (s : List TFePoint) (hl : s.length ≤ 1000000) : Sp 122 [.slc 3 (List.map TFePoint.av s), .fn 97 [] []] [] (.int .i64 (idxP wildP 0 s)) [] := s122 s _ _ (by
  refine ⟨fun m vs => ∃ n : Nat, vs = [.int .i64 n] ∧ n ≤ s.length ∧ m = s.length - n ∧ idxP wildP n (s.drop n) = idxP wildP 0 s, ⟨_, 0, rfl, by omega, rfl, rfl⟩, ?_⟩
  rintro m n ⟨k, hk, hle, rfl, hn⟩
  cases hk
  refine ⟨fun h3 => ?_, fun h3 => ⟨?_, rfl⟩⟩
  · have h3 : k < s.length := by simpa using h3
    obtain ⟨x, hx, hx'⟩ := map_getN (f := TFePoint.av) h3
    have hat := idxP_at (p := wildP) hx
    refine ⟨x.Current, x.Melt.Lo, x.Melt.Hi, ⟨by omega, rfl, hx'⟩, _, c97 x, fun h4 => ⟨?_, rfl⟩, fun h4 => ⟨_, ?_, k + 1, ?_, by omega, rfl, ?_⟩⟩
    · rw [← hn, hat, h4]; rfl
    · omega
    · rw [wrapN (by omega)]
    · rw [← hn, hat, h4]; rfl
  · have : k = s.length := by simp at h3; omega
    rw [← hn, this, List.drop_length]; rfl)
def R98 (s : List TFePoint) (S : SpecF) (Fr : FuncId → List AV → Nat → List AV → Prop) (Sq : FuncId → List AV → List (List AV) → List (List AV) → Prop) (Q : AV → List (List AV) → Prop) : Prop :=
  ∃ n0, S (122 : Nat) [AV.slc (3 : Nat) (List.map TFePoint.av s), AV.fn (97 : FuncId) [] []] [] (AV.int IntKind.i64 n0) [] ∧ Q (AV.bool (decide (n0 ≥ (0 : Int)))) []
theorem r98 (s : List TFePoint) (S : SpecF) (Fr : FuncId → List AV → Nat → List AV → Prop) (Sq : FuncId → List AV → List (List AV) → List (List AV) → Prop) (Q : AV → List (List AV) → Prop) : awpF Try.prog (mkS Try.prog S Fr Sq ⟨[], [], [], [], []⟩ 0) 0 ⟨[0, 1, 4], [], [], []⟩ Try.f98 [.slc 3 (List.map TFePoint.av s), .fn 97 [] []] [] Q = R98 s S Fr Sq Q := by kernel_rfl
theorem s98 (s : List TFePoint) (v : AV) (O : List (List AV)) (h : R98 s (SpecOf Try.prog) (FreshOf Try.prog) (SeqOf Try.prog) (fun r O' => r = v ∧ O' = O)) : SpecOf Try.prog 98 [.slc 3 (List.map TFePoint.av s), .fn 97 [] []] [] v O :=
  spec_by (boxes := []) mixed (by exact trivial) Try.func98 Try.call98 rfl rfl rfl (Nat.le_of_ble_eq_true rfl) (r98 s (SpecOf Try.prog) (FreshOf Try.prog) (SeqOf Try.prog) _) h
theorem c98 (s : List TFePoint) (hl : s.length ≤ 1000000) : Sp 98 [.slc 3 (List.map TFePoint.av s), .fn 97 [] []] [] (.bool (s.any wildP)) [] := s98 s _ _ (by
  refine ⟨_, c122 s hl, ?_, rfl⟩
  rw [idxP_ge])
def R124 (s : List TEncl) (S : SpecF) (Fr : FuncId → List AV → Nat → List AV → Prop) (Sq : FuncId → List AV → List (List AV) → List (List AV) → Prop) (Q : AV → List (List AV) → Prop) : Prop :=
  ∃ (I0 : Nat → List AV → Prop), (∃ m2, I0 m2 [AV.int IntKind.i64 (0 : Int)]) ∧ ∀ (m2 : Nat) (n3 : Int), I0 m2 [AV.int IntKind.i64 n3] → (decide (n3 < (↑(List.map TEncl.av s).length : Int)) = true → ∃ n7 n8, ((0 : Int) ≤ n3 ∧ (2 : Nat) = (2 : Nat) ∧ (List.map TEncl.av s)[n3.toNat]? = some (AV.agg [AV.int IntKind.i64 n7, AV.int IntKind.i64 n8])) ∧ ∃ b10, S (101 : FuncId) [AV.agg [AV.int IntKind.i64 n7, AV.int IntKind.i64 n8]] [] (AV.bool b10) [] ∧ (b10 = true → Q (AV.int IntKind.i64 n3) []) ∧ (b10 = false → ∃ k14, k14 < m2 ∧ I0 k14 [AV.int IntKind.i64 (IntKind.i64.wrap (n3 + (1 : Int)))])) ∧ (decide (n3 < (↑(List.map TEncl.av s).length : Int)) = false → Q (AV.int IntKind.i64 (-1 : Int)) [])
theorem r124 (s : List TEncl) (S : SpecF) (Fr : FuncId → List AV → Nat → List AV → Prop) (Sq : FuncId → List AV → List (List AV) → List (List AV) → Prop) (Q : AV → List (List AV) → Prop) : awpF Try.prog (mkS Try.prog S Fr Sq ⟨[], [], [], [], []⟩ 0) 0 ⟨[0, 1, 4, 5, 7, 8, 9, 16], [⟨2, [(8, .int .i64 0)], [], [], [], []⟩], [], []⟩ Try.f124 [.slc 3 (List.map TEncl.av s), .fn 101 [] []] [] Q = R124 s S Fr Sq Q := by kernel_rfl
theorem s124 (s : List TEncl) (v : AV) (O : List (List AV)) (h : R124 s (SpecOf Try.prog) (FreshOf Try.prog) (SeqOf Try.prog) (fun r O' => r = v ∧ O' = O)) : SpecOf Try.prog 124 [.slc 3 (List.map TEncl.av s), .fn 101 [] []] [] v O :=
  spec_by (boxes := []) mixed (by exact trivial) Try.func124 Try.call124 rfl rfl rfl (Nat.le_of_ble_eq_true rfl) (r124 s (SpecOf Try.prog) (FreshOf Try.prog) (SeqOf Try.prog) _) h
theorem c124 (s : List TEncl) (hl : s.length ≤ 1000000) : Sp 124 [.slc 3 (List.map TEncl.av s), .fn 101 [] []] [] (.int .i64 (idxP wildE 0 s)) [] := s124 s _ _ (by
  refine ⟨fun m vs => ∃ n : Nat, vs = [.int .i64 n] ∧ n ≤ s.length ∧ m = s.length - n ∧ idxP wildE n (s.drop n) = idxP wildE 0 s, ⟨_, 0, rfl, by omega, rfl, rfl⟩, ?_⟩
  rintro m n ⟨k, hk, hle, rfl, hn⟩
  cases hk
  refine ⟨fun h3 => ?_, fun h3 => ⟨?_, rfl⟩⟩
  · have h3 : k < s.length := by simpa using h3
    obtain ⟨x, hx, hx'⟩ := map_getN (f := TEncl.av) h3
    have hat := idxP_at (p := wildE) hx
    refine ⟨x.Lo, x.Hi, ⟨by omega, rfl, hx'⟩, _, c101 x, fun h4 => ⟨?_, rfl⟩, fun h4 => ⟨_, ?_, k + 1, ?_, by omega, rfl, ?_⟩⟩
    · rw [← hn, hat, h4]; rfl
    · omega
    · rw [wrapN (by omega)]
    · rw [← hn, hat, h4]; rfl
  · have : k = s.length := by simp at h3; omega
    rw [← hn, this, List.drop_length]; rfl)
def R102 (s : List TEncl) (S : SpecF) (Fr : FuncId → List AV → Nat → List AV → Prop) (Sq : FuncId → List AV → List (List AV) → List (List AV) → Prop) (Q : AV → List (List AV) → Prop) : Prop :=
  ∃ n0, S (124 : Nat) [AV.slc (3 : Nat) (List.map TEncl.av s), AV.fn (101 : FuncId) [] []] [] (AV.int IntKind.i64 n0) [] ∧ Q (AV.bool (decide (n0 ≥ (0 : Int)))) []
theorem r102 (s : List TEncl) (S : SpecF) (Fr : FuncId → List AV → Nat → List AV → Prop) (Sq : FuncId → List AV → List (List AV) → List (List AV) → Prop) (Q : AV → List (List AV) → Prop) : awpF Try.prog (mkS Try.prog S Fr Sq ⟨[], [], [], [], []⟩ 0) 0 ⟨[0, 1, 4], [], [], []⟩ Try.f102 [.slc 3 (List.map TEncl.av s), .fn 101 [] []] [] Q = R102 s S Fr Sq Q := by kernel_rfl
theorem s102 (s : List TEncl) (v : AV) (O : List (List AV)) (h : R102 s (SpecOf Try.prog) (FreshOf Try.prog) (SeqOf Try.prog) (fun r O' => r = v ∧ O' = O)) : SpecOf Try.prog 102 [.slc 3 (List.map TEncl.av s), .fn 101 [] []] [] v O :=
  spec_by (boxes := []) mixed (by exact trivial) Try.func102 Try.call102 rfl rfl rfl (Nat.le_of_ble_eq_true rfl) (r102 s (SpecOf Try.prog) (FreshOf Try.prog) (SeqOf Try.prog) _) h
theorem c102 (s : List TEncl) (hl : s.length ≤ 1000000) : Sp 102 [.slc 3 (List.map TEncl.av s), .fn 101 [] []] [] (.bool (s.any wildE)) [] := s102 s _ _ (by
  refine ⟨_, c124 s hl, ?_, rfl⟩
  rw [idxP_ge])
def R45 (x : TFeCable) (S : SpecF) (Fr : FuncId → List AV → Nat → List AV → Prop) (Sq : FuncId → List AV → List (List AV) → List (List AV) → Prop) (Q : AV → List (List AV) → Prop) : Prop :=
  Q (AV.str x.Name) []
theorem r45 (x : TFeCable) (S : SpecF) (Fr : FuncId → List AV → Nat → List AV → Prop) (Sq : FuncId → List AV → List (List AV) → List (List AV) → Prop) (Q : AV → List (List AV) → Prop) : awpF Try.prog (mkS Try.prog S Fr Sq ⟨[], [], [], [], []⟩ 0) 0 ⟨[0, 1, 2], [], [], []⟩ Try.f45 [x.av] [] Q = R45 x S Fr Sq Q := by kernel_rfl
theorem s45 (x : TFeCable) (v : AV) (O : List (List AV)) (h : R45 x (SpecOf Try.prog) (FreshOf Try.prog) (SeqOf Try.prog) (fun r O' => r = v ∧ O' = O)) : SpecOf Try.prog 45 [x.av] [] v O :=
  spec_by (boxes := []) mixed (by exact trivial) Try.func45 Try.call45 rfl rfl rfl (Nat.le_of_ble_eq_true rfl) (r45 x (SpecOf Try.prog) (FreshOf Try.prog) (SeqOf Try.prog) _) h
theorem c45 (x : TFeCable) : Sp 45 [x.av] [] (.str x.Name) [] := s45 x _ _ ⟨rfl, rfl⟩
def R92 (y : TFeCable) (v1 : TFeCable) (S : SpecF) (Fr : FuncId → List AV → Nat → List AV → Prop) (Sq : FuncId → List AV → List (List AV) → List (List AV) → Prop) (Q : AV → List (List AV) → Prop) : Prop :=
  ∃ s0, S (45 : FuncId) [y.av] [] (AV.str s0) [] ∧ ∃ s2, S (45 : FuncId) [v1.av] [] (AV.str s2) [] ∧ Q (AV.bool (s0.toList == s2.toList)) [[AV.fn (45 : FuncId) [] []], v1.cs]
theorem r92 (y : TFeCable) (v1 : TFeCable) (S : SpecF) (Fr : FuncId → List AV → Nat → List AV → Prop) (Sq : FuncId → List AV → List (List AV) → List (List AV) → Prop) (Q : AV → List (List AV) → Prop) : awpF Try.prog (mkS Try.prog S Fr Sq ⟨[], [], [], [], []⟩ 0) 2 ⟨[0, 1, 2, 3, 4], [], [], []⟩ Try.f92 [y.av, .ref 0 0, .ref 1 0] [⟨86, false, [.fn 45 [] []]⟩, ⟨55, false, v1.cs⟩] Q = R92 y v1 S Fr Sq Q := by kernel_rfl
theorem s92 (y : TFeCable) (v1 : TFeCable) (v : AV) (O : List (List AV)) (h : R92 y v1 (SpecOf Try.prog) (FreshOf Try.prog) (SeqOf Try.prog) (fun r O' => r = v ∧ O' = O)) : SpecOf Try.prog 92 [y.av, .ref 0 0, .ref 1 0] [[.fn 45 [] []], v1.cs] v O :=
  spec_by (boxes := [⟨86, false, [.fn 45 [] []]⟩, ⟨55, false, v1.cs⟩]) mixed (by exact trivial) Try.func92 Try.call92 rfl rfl rfl (Nat.le_of_ble_eq_true rfl) (r92 y v1 (SpecOf Try.prog) (FreshOf Try.prog) (SeqOf Try.prog) _) h
theorem c92 (x y : TFeCable) : Sp 92 [x.av, .ref 0 0, .ref 1 0] [[.fn 45 [] []], y.cs] (.bool (twinB x.Name y.Name)) [[.fn 45 [] []], y.cs] := s92 x y _ _ ⟨_, c45 x, _, c45 y, rfl, rfl⟩
def R120 (s : List TFeCable) (f1 : TFeCable) (S : SpecF) (Fr : FuncId → List AV → Nat → List AV → Prop) (Sq : FuncId → List AV → List (List AV) → List (List AV) → Prop) (Q : AV → List (List AV) → Prop) : Prop :=
  ∃ (I0 : Nat → List AV → Prop), (∃ m2, I0 m2 [AV.int IntKind.i64 (0 : Int)]) ∧ ∀ (m2 : Nat) (n3 : Int), I0 m2 [AV.int IntKind.i64 n3] → (decide (n3 < (↑(List.map TFeCable.av s).length : Int)) = true → ∃ s7 n8 n9 n10 n11 n12, ((0 : Int) ≤ n3 ∧ (6 : Nat) = (6 : Nat) ∧ (List.map TFeCable.av s)[n3.toNat]? = some (AV.agg [AV.str s7, AV.int IntKind.i64 n8, AV.int IntKind.i64 n9, AV.int IntKind.i64 n10, AV.int IntKind.i64 n11, AV.int IntKind.i64 n12])) ∧ ∃ b14 s15 n16 n17 n18 n19 n20, S (92 : FuncId) [AV.agg [AV.str s7, AV.int IntKind.i64 n8, AV.int IntKind.i64 n9, AV.int IntKind.i64 n10, AV.int IntKind.i64 n11, AV.int IntKind.i64 n12], AV.ref (0 : Nat) (0 : Nat), AV.ref (1 : Nat) (0 : Nat)] [[AV.fn (45 : FuncId) [] []], f1.cs] (AV.bool b14) [[AV.fn (45 : FuncId) [] []], [AV.str s15, AV.int IntKind.i64 n16, AV.int IntKind.i64 n17, AV.int IntKind.i64 n18, AV.int IntKind.i64 n19, AV.int IntKind.i64 n20]] ∧ (b14 = true → Q (AV.int IntKind.i64 n3) [[AV.fn (45 : FuncId) [] []], [AV.str s15, AV.int IntKind.i64 n16, AV.int IntKind.i64 n17, AV.int IntKind.i64 n18, AV.int IntKind.i64 n19, AV.int IntKind.i64 n20]]) ∧ (b14 = false → [AV.fn (45 : FuncId) [] []] = [AV.fn (45 : FuncId) [] []] ∧ [AV.str s15, AV.int IntKind.i64 n16, AV.int IntKind.i64 n17, AV.int IntKind.i64 n18, AV.int IntKind.i64 n19, AV.int IntKind.i64 n20] = f1.cs ∧ ∃ k26, k26 < m2 ∧ I0 k26 [AV.int IntKind.i64 (IntKind.i64.wrap (n3 + (1 : Int)))])) ∧ (decide (n3 < (↑(List.map TFeCable.av s).length : Int)) = false → Q (AV.int IntKind.i64 (-1 : Int)) [[AV.fn (45 : FuncId) [] []], f1.cs])
theorem r120 (s : List TFeCable) (f1 : TFeCable) (S : SpecF) (Fr : FuncId → List AV → Nat → List AV → Prop) (Sq : FuncId → List AV → List (List AV) → List (List AV) → Prop) (Q : AV → List (List AV) → Prop) : awpF Try.prog (mkS Try.prog S Fr Sq ⟨[], [], [], [], []⟩ 0) 2 ⟨[0, 1, 4, 5, 7, 8, 9, 16], [⟨2, [(8, .int .i64 0)], [], [], [], []⟩], [], []⟩ Try.f120 [.slc 3 (List.map TFeCable.av s), .fn 92 [] [.ref 0 0, .ref 1 0]] [⟨86, false, [.fn 45 [] []]⟩, ⟨55, false, f1.cs⟩] Q = R120 s f1 S Fr Sq Q := by kernel_rfl
theorem s120 (s : List TFeCable) (f1 : TFeCable) (v : AV) (O : List (List AV)) (h : R120 s f1 (SpecOf Try.prog) (FreshOf Try.prog) (SeqOf Try.prog) (fun r O' => r = v ∧ O' = O)) : SpecOf Try.prog 120 [.slc 3 (List.map TFeCable.av s), .fn 92 [] [.ref 0 0, .ref 1 0]] [[.fn 45 [] []], f1.cs] v O :=
  spec_by (boxes := [⟨86, false, [.fn 45 [] []]⟩, ⟨55, false, f1.cs⟩]) mixed (by exact trivial) Try.func120 Try.call120 rfl rfl rfl (Nat.le_of_ble_eq_true rfl) (r120 s f1 (SpecOf Try.prog) (FreshOf Try.prog) (SeqOf Try.prog) _) h
theorem c120 (s : List TFeCable) (y : TFeCable) (hl : s.length ≤ 1000000) : Sp 120 [.slc 3 (List.map TFeCable.av s), .fn 92 [] [.ref 0 0, .ref 1 0]] [[.fn 45 [] []], y.cs] (.int .i64 (idxP (fun x => twinB x.Name y.Name) 0 s)) [[.fn 45 [] []], y.cs] := s120 s y _ _ (by
  refine ⟨fun m vs => ∃ n : Nat, vs = [.int .i64 n] ∧ n ≤ s.length ∧ m = s.length - n ∧ idxP (fun x => twinB x.Name y.Name) n (s.drop n) = idxP (fun x => twinB x.Name y.Name) 0 s, ⟨_, 0, rfl, by omega, rfl, rfl⟩, ?_⟩
  rintro m n ⟨k, hk, hle, rfl, hn⟩
  cases hk
  refine ⟨fun h3 => ?_, fun h3 => ⟨?_, rfl⟩⟩
  · have h3 : k < s.length := by simpa using h3
    obtain ⟨x, hx, hx'⟩ := map_getN (f := TFeCable.av) h3
    have hat := idxP_at (p := (fun x => twinB x.Name y.Name)) hx
    refine ⟨x.Name, x.Core.Lo, x.Core.Hi, x.Earth.Lo, x.Earth.Hi, x.Rated, ⟨by omega, rfl, hx'⟩, _, y.Name, y.Core.Lo, y.Core.Hi, y.Earth.Lo, y.Earth.Hi, y.Rated, c92 x y, fun h4 => ⟨?_, rfl⟩, fun h4 => ⟨rfl, rfl, _, ?_, k + 1, ?_, by omega, rfl, ?_⟩⟩
    · rw [← hn, hat, h4]; rfl
    · omega
    · rw [wrapN (by omega)]
    · rw [← hn, hat, h4]; rfl
  · have : k = s.length := by simp at h3; omega
    rw [← hn, this, List.drop_length]; rfl)
def R94 (s : List TFeCable) (f1 : TFeCable) (S : SpecF) (Fr : FuncId → List AV → Nat → List AV → Prop) (Sq : FuncId → List AV → List (List AV) → List (List AV) → Prop) (Q : AV → List (List AV) → Prop) : Prop :=
  ∃ n0 s1 n2 n3 n4 n5 n6, S (120 : Nat) [AV.slc (3 : Nat) (List.map TFeCable.av s), AV.fn (92 : FuncId) [] [AV.ref (0 : Nat) (0 : Nat), AV.ref (1 : Nat) (0 : Nat)]] [[AV.fn (45 : FuncId) [] []], f1.cs] (AV.int IntKind.i64 n0) [[AV.fn (45 : FuncId) [] []], [AV.str s1, AV.int IntKind.i64 n2, AV.int IntKind.i64 n3, AV.int IntKind.i64 n4, AV.int IntKind.i64 n5, AV.int IntKind.i64 n6]] ∧ Q (AV.bool (decide (n0 ≥ (0 : Int)))) [[AV.fn (45 : FuncId) [] []], [AV.str s1, AV.int IntKind.i64 n2, AV.int IntKind.i64 n3, AV.int IntKind.i64 n4, AV.int IntKind.i64 n5, AV.int IntKind.i64 n6]]
theorem r94 (s : List TFeCable) (f1 : TFeCable) (S : SpecF) (Fr : FuncId → List AV → Nat → List AV → Prop) (Sq : FuncId → List AV → List (List AV) → List (List AV) → Prop) (Q : AV → List (List AV) → Prop) : awpF Try.prog (mkS Try.prog S Fr Sq ⟨[], [], [], [], []⟩ 0) 2 ⟨[0, 1, 4], [], [], []⟩ Try.f94 [.slc 3 (List.map TFeCable.av s), .fn 92 [] [.ref 0 0, .ref 1 0]] [⟨86, false, [.fn 45 [] []]⟩, ⟨55, false, f1.cs⟩] Q = R94 s f1 S Fr Sq Q := by kernel_rfl
theorem s94 (s : List TFeCable) (f1 : TFeCable) (v : AV) (O : List (List AV)) (h : R94 s f1 (SpecOf Try.prog) (FreshOf Try.prog) (SeqOf Try.prog) (fun r O' => r = v ∧ O' = O)) : SpecOf Try.prog 94 [.slc 3 (List.map TFeCable.av s), .fn 92 [] [.ref 0 0, .ref 1 0]] [[.fn 45 [] []], f1.cs] v O :=
  spec_by (boxes := [⟨86, false, [.fn 45 [] []]⟩, ⟨55, false, f1.cs⟩]) mixed (by exact trivial) Try.func94 Try.call94 rfl rfl rfl (Nat.le_of_ble_eq_true rfl) (r94 s f1 (SpecOf Try.prog) (FreshOf Try.prog) (SeqOf Try.prog) _) h
theorem c94 (s : List TFeCable) (y : TFeCable) (hl : s.length ≤ 1000000) : Sp 94 [.slc 3 (List.map TFeCable.av s), .fn 92 [] [.ref 0 0, .ref 1 0]] [[.fn 45 [] []], y.cs] (.bool (s.any (fun x => twinB x.Name y.Name))) [[.fn 45 [] []], y.cs] := s94 s y _ _ (by
  refine ⟨_, y.Name, y.Core.Lo, y.Core.Hi, y.Earth.Lo, y.Earth.Hi, y.Rated, c120 s y hl, ?_, rfl⟩
  rw [idxP_ge])
def R48 (x : TFeFuse) (S : SpecF) (Fr : FuncId → List AV → Nat → List AV → Prop) (Sq : FuncId → List AV → List (List AV) → List (List AV) → Prop) (Q : AV → List (List AV) → Prop) : Prop :=
  Q (AV.str x.Name) []
theorem r48 (x : TFeFuse) (S : SpecF) (Fr : FuncId → List AV → Nat → List AV → Prop) (Sq : FuncId → List AV → List (List AV) → List (List AV) → Prop) (Q : AV → List (List AV) → Prop) : awpF Try.prog (mkS Try.prog S Fr Sq ⟨[], [], [], [], []⟩ 0) 0 ⟨[0, 1, 2], [], [], []⟩ Try.f48 [x.av] [] Q = R48 x S Fr Sq Q := by kernel_rfl
theorem s48 (x : TFeFuse) (v : AV) (O : List (List AV)) (h : R48 x (SpecOf Try.prog) (FreshOf Try.prog) (SeqOf Try.prog) (fun r O' => r = v ∧ O' = O)) : SpecOf Try.prog 48 [x.av] [] v O :=
  spec_by (boxes := []) mixed (by exact trivial) Try.func48 Try.call48 rfl rfl rfl (Nat.le_of_ble_eq_true rfl) (r48 x (SpecOf Try.prog) (FreshOf Try.prog) (SeqOf Try.prog) _) h
theorem c48 (x : TFeFuse) : Sp 48 [x.av] [] (.str x.Name) [] := s48 x _ _ ⟨rfl, rfl⟩
def R95 (y : TFeFuse) (v1 : TFeFuse) (S : SpecF) (Fr : FuncId → List AV → Nat → List AV → Prop) (Sq : FuncId → List AV → List (List AV) → List (List AV) → Prop) (Q : AV → List (List AV) → Prop) : Prop :=
  ∃ s0, S (48 : FuncId) [y.av] [] (AV.str s0) [] ∧ ∃ s2, S (48 : FuncId) [v1.av] [] (AV.str s2) [] ∧ Q (AV.bool (s0.toList == s2.toList)) [[AV.fn (48 : FuncId) [] []], v1.cs]
theorem r95 (y : TFeFuse) (v1 : TFeFuse) (S : SpecF) (Fr : FuncId → List AV → Nat → List AV → Prop) (Sq : FuncId → List AV → List (List AV) → List (List AV) → Prop) (Q : AV → List (List AV) → Prop) : awpF Try.prog (mkS Try.prog S Fr Sq ⟨[], [], [], [], []⟩ 0) 2 ⟨[0, 1, 2, 3, 4], [], [], []⟩ Try.f95 [y.av, .ref 0 0, .ref 1 0] [⟨92, false, [.fn 48 [] []]⟩, ⟨91, false, v1.cs⟩] Q = R95 y v1 S Fr Sq Q := by kernel_rfl
theorem s95 (y : TFeFuse) (v1 : TFeFuse) (v : AV) (O : List (List AV)) (h : R95 y v1 (SpecOf Try.prog) (FreshOf Try.prog) (SeqOf Try.prog) (fun r O' => r = v ∧ O' = O)) : SpecOf Try.prog 95 [y.av, .ref 0 0, .ref 1 0] [[.fn 48 [] []], v1.cs] v O :=
  spec_by (boxes := [⟨92, false, [.fn 48 [] []]⟩, ⟨91, false, v1.cs⟩]) mixed (by exact trivial) Try.func95 Try.call95 rfl rfl rfl (Nat.le_of_ble_eq_true rfl) (r95 y v1 (SpecOf Try.prog) (FreshOf Try.prog) (SeqOf Try.prog) _) h
theorem c95 (x y : TFeFuse) : Sp 95 [x.av, .ref 0 0, .ref 1 0] [[.fn 48 [] []], y.cs] (.bool (twinB x.Name y.Name)) [[.fn 48 [] []], y.cs] := s95 x y _ _ ⟨_, c48 x, _, c48 y, rfl, rfl⟩
def R121 (s : List TFeFuse) (f1 : TFeFuse) (S : SpecF) (Fr : FuncId → List AV → Nat → List AV → Prop) (Sq : FuncId → List AV → List (List AV) → List (List AV) → Prop) (Q : AV → List (List AV) → Prop) : Prop :=
  ∃ (I0 : Nat → List AV → Prop), (∃ m2, I0 m2 [AV.int IntKind.i64 (0 : Int)]) ∧ ∀ (m2 : Nat) (n3 : Int), I0 m2 [AV.int IntKind.i64 n3] → (decide (n3 < (↑(List.map TFeFuse.av s).length : Int)) = true → ∃ s7 n8 es9, ((0 : Int) ≤ n3 ∧ (3 : Nat) = (3 : Nat) ∧ (List.map TFeFuse.av s)[n3.toNat]? = some (AV.agg [AV.str s7, AV.int IntKind.i64 n8, AV.slc (3 : Nat) es9])) ∧ ∃ b11 s12 n13 es14, S (95 : FuncId) [AV.agg [AV.str s7, AV.int IntKind.i64 n8, AV.slc (3 : Nat) es9], AV.ref (0 : Nat) (0 : Nat), AV.ref (1 : Nat) (0 : Nat)] [[AV.fn (48 : FuncId) [] []], f1.cs] (AV.bool b11) [[AV.fn (48 : FuncId) [] []], [AV.str s12, AV.int IntKind.i64 n13, AV.slc (3 : Nat) es14]] ∧ (b11 = true → Q (AV.int IntKind.i64 n3) [[AV.fn (48 : FuncId) [] []], [AV.str s12, AV.int IntKind.i64 n13, AV.slc (3 : Nat) es14]]) ∧ (b11 = false → [AV.fn (48 : FuncId) [] []] = [AV.fn (48 : FuncId) [] []] ∧ [AV.str s12, AV.int IntKind.i64 n13, AV.slc (3 : Nat) es14] = f1.cs ∧ ∃ k20, k20 < m2 ∧ I0 k20 [AV.int IntKind.i64 (IntKind.i64.wrap (n3 + (1 : Int)))])) ∧ (decide (n3 < (↑(List.map TFeFuse.av s).length : Int)) = false → Q (AV.int IntKind.i64 (-1 : Int)) [[AV.fn (48 : FuncId) [] []], f1.cs])
theorem r121 (s : List TFeFuse) (f1 : TFeFuse) (S : SpecF) (Fr : FuncId → List AV → Nat → List AV → Prop) (Sq : FuncId → List AV → List (List AV) → List (List AV) → Prop) (Q : AV → List (List AV) → Prop) : awpF Try.prog (mkS Try.prog S Fr Sq ⟨[], [], [], [], []⟩ 0) 2 ⟨[0, 1, 4, 5, 7, 8, 9, 16], [⟨2, [(8, .int .i64 0)], [], [], [], []⟩], [], []⟩ Try.f121 [.slc 3 (List.map TFeFuse.av s), .fn 95 [] [.ref 0 0, .ref 1 0]] [⟨92, false, [.fn 48 [] []]⟩, ⟨91, false, f1.cs⟩] Q = R121 s f1 S Fr Sq Q := by kernel_rfl
theorem s121 (s : List TFeFuse) (f1 : TFeFuse) (v : AV) (O : List (List AV)) (h : R121 s f1 (SpecOf Try.prog) (FreshOf Try.prog) (SeqOf Try.prog) (fun r O' => r = v ∧ O' = O)) : SpecOf Try.prog 121 [.slc 3 (List.map TFeFuse.av s), .fn 95 [] [.ref 0 0, .ref 1 0]] [[.fn 48 [] []], f1.cs] v O :=
  spec_by (boxes := [⟨92, false, [.fn 48 [] []]⟩, ⟨91, false, f1.cs⟩]) mixed (by exact trivial) Try.func121 Try.call121 rfl rfl rfl (Nat.le_of_ble_eq_true rfl) (r121 s f1 (SpecOf Try.prog) (FreshOf Try.prog) (SeqOf Try.prog) _) h
theorem c121 (s : List TFeFuse) (y : TFeFuse) (hl : s.length ≤ 1000000) : Sp 121 [.slc 3 (List.map TFeFuse.av s), .fn 95 [] [.ref 0 0, .ref 1 0]] [[.fn 48 [] []], y.cs] (.int .i64 (idxP (fun x => twinB x.Name y.Name) 0 s)) [[.fn 48 [] []], y.cs] := s121 s y _ _ (by
  refine ⟨fun m vs => ∃ n : Nat, vs = [.int .i64 n] ∧ n ≤ s.length ∧ m = s.length - n ∧ idxP (fun x => twinB x.Name y.Name) n (s.drop n) = idxP (fun x => twinB x.Name y.Name) 0 s, ⟨_, 0, rfl, by omega, rfl, rfl⟩, ?_⟩
  rintro m n ⟨k, hk, hle, rfl, hn⟩
  cases hk
  refine ⟨fun h3 => ?_, fun h3 => ⟨?_, rfl⟩⟩
  · have h3 : k < s.length := by simpa using h3
    obtain ⟨x, hx, hx'⟩ := map_getN (f := TFeFuse.av) h3
    have hat := idxP_at (p := (fun x => twinB x.Name y.Name)) hx
    refine ⟨x.Name, x.Rated, List.map TFePoint.av x.Points, ⟨by omega, rfl, hx'⟩, _, y.Name, y.Rated, List.map TFePoint.av y.Points, c95 x y, fun h4 => ⟨?_, rfl⟩, fun h4 => ⟨rfl, rfl, _, ?_, k + 1, ?_, by omega, rfl, ?_⟩⟩
    · rw [← hn, hat, h4]; rfl
    · omega
    · rw [wrapN (by omega)]
    · rw [← hn, hat, h4]; rfl
  · have : k = s.length := by simp at h3; omega
    rw [← hn, this, List.drop_length]; rfl)
def R96 (s : List TFeFuse) (f1 : TFeFuse) (S : SpecF) (Fr : FuncId → List AV → Nat → List AV → Prop) (Sq : FuncId → List AV → List (List AV) → List (List AV) → Prop) (Q : AV → List (List AV) → Prop) : Prop :=
  ∃ n0 s1 n2 es3, S (121 : Nat) [AV.slc (3 : Nat) (List.map TFeFuse.av s), AV.fn (95 : FuncId) [] [AV.ref (0 : Nat) (0 : Nat), AV.ref (1 : Nat) (0 : Nat)]] [[AV.fn (48 : FuncId) [] []], f1.cs] (AV.int IntKind.i64 n0) [[AV.fn (48 : FuncId) [] []], [AV.str s1, AV.int IntKind.i64 n2, AV.slc (3 : Nat) es3]] ∧ Q (AV.bool (decide (n0 ≥ (0 : Int)))) [[AV.fn (48 : FuncId) [] []], [AV.str s1, AV.int IntKind.i64 n2, AV.slc (3 : Nat) es3]]
theorem r96 (s : List TFeFuse) (f1 : TFeFuse) (S : SpecF) (Fr : FuncId → List AV → Nat → List AV → Prop) (Sq : FuncId → List AV → List (List AV) → List (List AV) → Prop) (Q : AV → List (List AV) → Prop) : awpF Try.prog (mkS Try.prog S Fr Sq ⟨[], [], [], [], []⟩ 0) 2 ⟨[0, 1, 4], [], [], []⟩ Try.f96 [.slc 3 (List.map TFeFuse.av s), .fn 95 [] [.ref 0 0, .ref 1 0]] [⟨92, false, [.fn 48 [] []]⟩, ⟨91, false, f1.cs⟩] Q = R96 s f1 S Fr Sq Q := by kernel_rfl
theorem s96 (s : List TFeFuse) (f1 : TFeFuse) (v : AV) (O : List (List AV)) (h : R96 s f1 (SpecOf Try.prog) (FreshOf Try.prog) (SeqOf Try.prog) (fun r O' => r = v ∧ O' = O)) : SpecOf Try.prog 96 [.slc 3 (List.map TFeFuse.av s), .fn 95 [] [.ref 0 0, .ref 1 0]] [[.fn 48 [] []], f1.cs] v O :=
  spec_by (boxes := [⟨92, false, [.fn 48 [] []]⟩, ⟨91, false, f1.cs⟩]) mixed (by exact trivial) Try.func96 Try.call96 rfl rfl rfl (Nat.le_of_ble_eq_true rfl) (r96 s f1 (SpecOf Try.prog) (FreshOf Try.prog) (SeqOf Try.prog) _) h
theorem c96 (s : List TFeFuse) (y : TFeFuse) (hl : s.length ≤ 1000000) : Sp 96 [.slc 3 (List.map TFeFuse.av s), .fn 95 [] [.ref 0 0, .ref 1 0]] [[.fn 48 [] []], y.cs] (.bool (s.any (fun x => twinB x.Name y.Name))) [[.fn 48 [] []], y.cs] := s96 s y _ _ (by
  refine ⟨_, y.Name, y.Rated, List.map TFePoint.av y.Points, c121 s y hl, ?_, rfl⟩
  rw [idxP_ge])
def R51 (x : TFeNode) (S : SpecF) (Fr : FuncId → List AV → Nat → List AV → Prop) (Sq : FuncId → List AV → List (List AV) → List (List AV) → Prop) (Q : AV → List (List AV) → Prop) : Prop :=
  Q (AV.str x.Name) []
theorem r51 (x : TFeNode) (S : SpecF) (Fr : FuncId → List AV → Nat → List AV → Prop) (Sq : FuncId → List AV → List (List AV) → List (List AV) → Prop) (Q : AV → List (List AV) → Prop) : awpF Try.prog (mkS Try.prog S Fr Sq ⟨[], [], [], [], []⟩ 0) 0 ⟨[0, 1, 2], [], [], []⟩ Try.f51 [x.av] [] Q = R51 x S Fr Sq Q := by kernel_rfl
theorem s51 (x : TFeNode) (v : AV) (O : List (List AV)) (h : R51 x (SpecOf Try.prog) (FreshOf Try.prog) (SeqOf Try.prog) (fun r O' => r = v ∧ O' = O)) : SpecOf Try.prog 51 [x.av] [] v O :=
  spec_by (boxes := []) mixed (by exact trivial) Try.func51 Try.call51 rfl rfl rfl (Nat.le_of_ble_eq_true rfl) (r51 x (SpecOf Try.prog) (FreshOf Try.prog) (SeqOf Try.prog) _) h
theorem c51 (x : TFeNode) : Sp 51 [x.av] [] (.str x.Name) [] := s51 x _ _ ⟨rfl, rfl⟩
def R99 (y : TFeNode) (v1 : TFeNode) (S : SpecF) (Fr : FuncId → List AV → Nat → List AV → Prop) (Sq : FuncId → List AV → List (List AV) → List (List AV) → Prop) (Q : AV → List (List AV) → Prop) : Prop :=
  ∃ s0, S (51 : FuncId) [y.av] [] (AV.str s0) [] ∧ ∃ s2, S (51 : FuncId) [v1.av] [] (AV.str s2) [] ∧ Q (AV.bool (s0.toList == s2.toList)) [[AV.fn (51 : FuncId) [] []], v1.cs]
theorem r99 (y : TFeNode) (v1 : TFeNode) (S : SpecF) (Fr : FuncId → List AV → Nat → List AV → Prop) (Sq : FuncId → List AV → List (List AV) → List (List AV) → Prop) (Q : AV → List (List AV) → Prop) : awpF Try.prog (mkS Try.prog S Fr Sq ⟨[], [], [], [], []⟩ 0) 2 ⟨[0, 1, 2, 3, 4], [], [], []⟩ Try.f99 [y.av, .ref 0 0, .ref 1 0] [⟨95, false, [.fn 51 [] []]⟩, ⟨53, false, v1.cs⟩] Q = R99 y v1 S Fr Sq Q := by kernel_rfl
theorem s99 (y : TFeNode) (v1 : TFeNode) (v : AV) (O : List (List AV)) (h : R99 y v1 (SpecOf Try.prog) (FreshOf Try.prog) (SeqOf Try.prog) (fun r O' => r = v ∧ O' = O)) : SpecOf Try.prog 99 [y.av, .ref 0 0, .ref 1 0] [[.fn 51 [] []], v1.cs] v O :=
  spec_by (boxes := [⟨95, false, [.fn 51 [] []]⟩, ⟨53, false, v1.cs⟩]) mixed (by exact trivial) Try.func99 Try.call99 rfl rfl rfl (Nat.le_of_ble_eq_true rfl) (r99 y v1 (SpecOf Try.prog) (FreshOf Try.prog) (SeqOf Try.prog) _) h
theorem c99 (x y : TFeNode) : Sp 99 [x.av, .ref 0 0, .ref 1 0] [[.fn 51 [] []], y.cs] (.bool (twinB x.Name y.Name)) [[.fn 51 [] []], y.cs] := s99 x y _ _ ⟨_, c51 x, _, c51 y, rfl, rfl⟩
def R123 (s : List TFeNode) (f1 : TFeNode) (S : SpecF) (Fr : FuncId → List AV → Nat → List AV → Prop) (Sq : FuncId → List AV → List (List AV) → List (List AV) → Prop) (Q : AV → List (List AV) → Prop) : Prop :=
  ∃ (I0 : Nat → List AV → Prop), (∃ m2, I0 m2 [AV.int IntKind.i64 (0 : Int)]) ∧ ∀ (m2 : Nat) (n3 : Int), I0 m2 [AV.int IntKind.i64 n3] → (decide (n3 < (↑(List.map TFeNode.av s).length : Int)) = true → ∃ s7 n8 n9 n10 n11 n12 n13 n14 n15 n16 n17, ((0 : Int) ≤ n3 ∧ (11 : Nat) = (11 : Nat) ∧ (List.map TFeNode.av s)[n3.toNat]? = some (AV.agg [AV.str s7, AV.int IntKind.i64 n8, AV.int IntKind.i64 n9, AV.int IntKind.i64 n10, AV.int IntKind.i64 n11, AV.int IntKind.i64 n12, AV.int IntKind.i64 n13, AV.int IntKind.i64 n14, AV.int IntKind.i64 n15, AV.int IntKind.i64 n16, AV.int IntKind.i64 n17])) ∧ ∃ b19 s20 n21 n22 n23 n24 n25 n26 n27 n28 n29 n30, S (99 : FuncId) [AV.agg [AV.str s7, AV.int IntKind.i64 n8, AV.int IntKind.i64 n9, AV.int IntKind.i64 n10, AV.int IntKind.i64 n11, AV.int IntKind.i64 n12, AV.int IntKind.i64 n13, AV.int IntKind.i64 n14, AV.int IntKind.i64 n15, AV.int IntKind.i64 n16, AV.int IntKind.i64 n17], AV.ref (0 : Nat) (0 : Nat), AV.ref (1 : Nat) (0 : Nat)] [[AV.fn (51 : FuncId) [] []], f1.cs] (AV.bool b19) [[AV.fn (51 : FuncId) [] []], [AV.str s20, AV.int IntKind.i64 n21, AV.int IntKind.i64 n22, AV.int IntKind.i64 n23, AV.int IntKind.i64 n24, AV.int IntKind.i64 n25, AV.int IntKind.i64 n26, AV.int IntKind.i64 n27, AV.int IntKind.i64 n28, AV.int IntKind.i64 n29, AV.int IntKind.i64 n30]] ∧ (b19 = true → Q (AV.int IntKind.i64 n3) [[AV.fn (51 : FuncId) [] []], [AV.str s20, AV.int IntKind.i64 n21, AV.int IntKind.i64 n22, AV.int IntKind.i64 n23, AV.int IntKind.i64 n24, AV.int IntKind.i64 n25, AV.int IntKind.i64 n26, AV.int IntKind.i64 n27, AV.int IntKind.i64 n28, AV.int IntKind.i64 n29, AV.int IntKind.i64 n30]]) ∧ (b19 = false → [AV.fn (51 : FuncId) [] []] = [AV.fn (51 : FuncId) [] []] ∧ [AV.str s20, AV.int IntKind.i64 n21, AV.int IntKind.i64 n22, AV.int IntKind.i64 n23, AV.int IntKind.i64 n24, AV.int IntKind.i64 n25, AV.int IntKind.i64 n26, AV.int IntKind.i64 n27, AV.int IntKind.i64 n28, AV.int IntKind.i64 n29, AV.int IntKind.i64 n30] = f1.cs ∧ ∃ k36, k36 < m2 ∧ I0 k36 [AV.int IntKind.i64 (IntKind.i64.wrap (n3 + (1 : Int)))])) ∧ (decide (n3 < (↑(List.map TFeNode.av s).length : Int)) = false → Q (AV.int IntKind.i64 (-1 : Int)) [[AV.fn (51 : FuncId) [] []], f1.cs])
theorem r123 (s : List TFeNode) (f1 : TFeNode) (S : SpecF) (Fr : FuncId → List AV → Nat → List AV → Prop) (Sq : FuncId → List AV → List (List AV) → List (List AV) → Prop) (Q : AV → List (List AV) → Prop) : awpF Try.prog (mkS Try.prog S Fr Sq ⟨[], [], [], [], []⟩ 0) 2 ⟨[0, 1, 4, 5, 7, 8, 9, 16], [⟨2, [(8, .int .i64 0)], [], [], [], []⟩], [], []⟩ Try.f123 [.slc 3 (List.map TFeNode.av s), .fn 99 [] [.ref 0 0, .ref 1 0]] [⟨95, false, [.fn 51 [] []]⟩, ⟨53, false, f1.cs⟩] Q = R123 s f1 S Fr Sq Q := by kernel_rfl
theorem s123 (s : List TFeNode) (f1 : TFeNode) (v : AV) (O : List (List AV)) (h : R123 s f1 (SpecOf Try.prog) (FreshOf Try.prog) (SeqOf Try.prog) (fun r O' => r = v ∧ O' = O)) : SpecOf Try.prog 123 [.slc 3 (List.map TFeNode.av s), .fn 99 [] [.ref 0 0, .ref 1 0]] [[.fn 51 [] []], f1.cs] v O :=
  spec_by (boxes := [⟨95, false, [.fn 51 [] []]⟩, ⟨53, false, f1.cs⟩]) mixed (by exact trivial) Try.func123 Try.call123 rfl rfl rfl (Nat.le_of_ble_eq_true rfl) (r123 s f1 (SpecOf Try.prog) (FreshOf Try.prog) (SeqOf Try.prog) _) h
theorem c123 (s : List TFeNode) (y : TFeNode) (hl : s.length ≤ 1000000) : Sp 123 [.slc 3 (List.map TFeNode.av s), .fn 99 [] [.ref 0 0, .ref 1 0]] [[.fn 51 [] []], y.cs] (.int .i64 (idxP (fun x => twinB x.Name y.Name) 0 s)) [[.fn 51 [] []], y.cs] := s123 s y _ _ (by
  refine ⟨fun m vs => ∃ n : Nat, vs = [.int .i64 n] ∧ n ≤ s.length ∧ m = s.length - n ∧ idxP (fun x => twinB x.Name y.Name) n (s.drop n) = idxP (fun x => twinB x.Name y.Name) 0 s, ⟨_, 0, rfl, by omega, rfl, rfl⟩, ?_⟩
  rintro m n ⟨k, hk, hle, rfl, hn⟩
  cases hk
  refine ⟨fun h3 => ?_, fun h3 => ⟨?_, rfl⟩⟩
  · have h3 : k < s.length := by simpa using h3
    obtain ⟨x, hx, hx'⟩ := map_getN (f := TFeNode.av) h3
    have hat := idxP_at (p := (fun x => twinB x.Name y.Name)) hx
    refine ⟨x.Name, x.Parent, x.Cable, x.Length, x.Fuse, x.Loads0.Lo, x.Loads0.Hi, x.Loads1.Lo, x.Loads1.Hi, x.Loads2.Lo, x.Loads2.Hi, ⟨by omega, rfl, hx'⟩, _, y.Name, y.Parent, y.Cable, y.Length, y.Fuse, y.Loads0.Lo, y.Loads0.Hi, y.Loads1.Lo, y.Loads1.Hi, y.Loads2.Lo, y.Loads2.Hi, c99 x y, fun h4 => ⟨?_, rfl⟩, fun h4 => ⟨rfl, rfl, _, ?_, k + 1, ?_, by omega, rfl, ?_⟩⟩
    · rw [← hn, hat, h4]; rfl
    · omega
    · rw [wrapN (by omega)]
    · rw [← hn, hat, h4]; rfl
  · have : k = s.length := by simp at h3; omega
    rw [← hn, this, List.drop_length]; rfl)
def R100 (s : List TFeNode) (f1 : TFeNode) (S : SpecF) (Fr : FuncId → List AV → Nat → List AV → Prop) (Sq : FuncId → List AV → List (List AV) → List (List AV) → Prop) (Q : AV → List (List AV) → Prop) : Prop :=
  ∃ n0 s1 n2 n3 n4 n5 n6 n7 n8 n9 n10 n11, S (123 : Nat) [AV.slc (3 : Nat) (List.map TFeNode.av s), AV.fn (99 : FuncId) [] [AV.ref (0 : Nat) (0 : Nat), AV.ref (1 : Nat) (0 : Nat)]] [[AV.fn (51 : FuncId) [] []], f1.cs] (AV.int IntKind.i64 n0) [[AV.fn (51 : FuncId) [] []], [AV.str s1, AV.int IntKind.i64 n2, AV.int IntKind.i64 n3, AV.int IntKind.i64 n4, AV.int IntKind.i64 n5, AV.int IntKind.i64 n6, AV.int IntKind.i64 n7, AV.int IntKind.i64 n8, AV.int IntKind.i64 n9, AV.int IntKind.i64 n10, AV.int IntKind.i64 n11]] ∧ Q (AV.bool (decide (n0 ≥ (0 : Int)))) [[AV.fn (51 : FuncId) [] []], [AV.str s1, AV.int IntKind.i64 n2, AV.int IntKind.i64 n3, AV.int IntKind.i64 n4, AV.int IntKind.i64 n5, AV.int IntKind.i64 n6, AV.int IntKind.i64 n7, AV.int IntKind.i64 n8, AV.int IntKind.i64 n9, AV.int IntKind.i64 n10, AV.int IntKind.i64 n11]]
theorem r100 (s : List TFeNode) (f1 : TFeNode) (S : SpecF) (Fr : FuncId → List AV → Nat → List AV → Prop) (Sq : FuncId → List AV → List (List AV) → List (List AV) → Prop) (Q : AV → List (List AV) → Prop) : awpF Try.prog (mkS Try.prog S Fr Sq ⟨[], [], [], [], []⟩ 0) 2 ⟨[0, 1, 4], [], [], []⟩ Try.f100 [.slc 3 (List.map TFeNode.av s), .fn 99 [] [.ref 0 0, .ref 1 0]] [⟨95, false, [.fn 51 [] []]⟩, ⟨53, false, f1.cs⟩] Q = R100 s f1 S Fr Sq Q := by kernel_rfl
theorem s100 (s : List TFeNode) (f1 : TFeNode) (v : AV) (O : List (List AV)) (h : R100 s f1 (SpecOf Try.prog) (FreshOf Try.prog) (SeqOf Try.prog) (fun r O' => r = v ∧ O' = O)) : SpecOf Try.prog 100 [.slc 3 (List.map TFeNode.av s), .fn 99 [] [.ref 0 0, .ref 1 0]] [[.fn 51 [] []], f1.cs] v O :=
  spec_by (boxes := [⟨95, false, [.fn 51 [] []]⟩, ⟨53, false, f1.cs⟩]) mixed (by exact trivial) Try.func100 Try.call100 rfl rfl rfl (Nat.le_of_ble_eq_true rfl) (r100 s f1 (SpecOf Try.prog) (FreshOf Try.prog) (SeqOf Try.prog) _) h
theorem c100 (s : List TFeNode) (y : TFeNode) (hl : s.length ≤ 1000000) : Sp 100 [.slc 3 (List.map TFeNode.av s), .fn 99 [] [.ref 0 0, .ref 1 0]] [[.fn 51 [] []], y.cs] (.bool (s.any (fun x => twinB x.Name y.Name))) [[.fn 51 [] []], y.cs] := s100 s y _ _ (by
  refine ⟨_, y.Name, y.Parent, y.Cable, y.Length, y.Fuse, y.Loads0.Lo, y.Loads0.Hi, y.Loads1.Lo, y.Loads1.Hi, y.Loads2.Lo, y.Loads2.Hi, c123 s y hl, ?_, rfl⟩
  rw [idxP_ge])
theorem stepsS_at {l : List TFePoint} {k : Nat} {a b : TFePoint} (ha : l[k]? = some a) (hb : l[k + 1]? = some b) : stepsS (l.drop k) = if stepB a b then 2 else stepsS (l.drop (k + 1)) := by
  obtain ⟨hk, rfl⟩ := List.getElem?_eq_some_iff.1 ha
  obtain ⟨hk1, rfl⟩ := List.getElem?_eq_some_iff.1 hb
  rw [List.drop_eq_getElem_cons hk, List.drop_eq_getElem_cons hk1]; rfl
theorem stepsS_end {l : List TFePoint} {k : Nat} (h : l.length ≤ k + 1) : stepsS (l.drop k) = 0 := by
  have : (l.drop k).length ≤ 1 := by rw [List.length_drop]; omega
  match hd : l.drop k with
  | [] => rfl
  | [_] => rfl
  | a :: b :: r => rw [hd] at this; simp at this
theorem elems_map {α : Type} {f : α → AV} {n : Nat} (h : ∀ x, (f x).cells.length = n) (l : List α) : elemsOf n (l.map f) := by
  intro v hv
  obtain ⟨x, _, rfl⟩ := List.mem_map.1 hv
  exact h x
def R49 (a0 : Int) (x : TFeFuse) (S : SpecF) (Fr : FuncId → List AV → Nat → List AV → Prop) (Sq : FuncId → List AV → List (List AV) → List (List AV) → Prop) (Q : AV → List (List AV) → Prop) : Prop :=
  ∃ b0, S (43 : Nat) [AV.int IntKind.i64 (↑(List.map TFePoint.av x.Points).length : Int), AV.int IntKind.i64 (1 : Int), AV.int IntKind.i64 (8 : Int)] [] (AV.bool b0) [] ∧ ((!b0) = true → Q (AV.int IntKind.i64 (3 : Int)) []) ∧ ((!b0) = false → ∃ b4, S (43 : Nat) [AV.int IntKind.i64 x.Rated, AV.int IntKind.i64 (1 : Int), AV.int IntKind.i64 (100000000 : Int)] [] (AV.bool b4) [] ∧ ((!b4) = true → Q (AV.int IntKind.i64 (7 : Int)) []) ∧ ((!b4) = false → ∃ b8, S (98 : Nat) [AV.slc (3 : Nat) (List.map TFePoint.av x.Points), AV.fn (97 : Nat) [] []] [] (AV.bool b8) [] ∧ (b8 = true → Q (AV.int IntKind.i64 (7 : Int)) []) ∧ (b8 = false → ((0 : Int) ≤ (1 : Int) ∧ (1 : Int) ≤ (↑(List.map TFePoint.av x.Points).length : Int) ∧ (↑(List.map TFePoint.av x.Points).length : Int) ≤ (↑(List.map TFePoint.av x.Points).length : Int) ∧ elemsOf (3 : Nat) (List.map TFePoint.av x.Points)) ∧ ∃ (I13 : Nat → List AV → Prop), (∃ m15, I13 m15 [AV.int IntKind.i64 (0 : Int)]) ∧ ∀ (m15 : Nat) (n16 : Int), I13 m15 [AV.int IntKind.i64 n16] → (decide (n16 < (↑(List.take ((↑(List.map TFePoint.av x.Points).length : Int).toNat - Int.toNat (1 : Int)) (List.drop (Int.toNat (1 : Int)) (List.map TFePoint.av x.Points))).length : Int)) = true → ∃ n20 n21 n22, ((0 : Int) ≤ n16 ∧ (3 : Nat) = (3 : Nat) ∧ (List.take ((↑(List.map TFePoint.av x.Points).length : Int).toNat - (1 : Nat)) (List.drop (1 : Nat) (List.map TFePoint.av x.Points)))[n16.toNat]? = some (AV.agg [AV.int IntKind.i64 n20, AV.int IntKind.i64 n21, AV.int IntKind.i64 n22])) ∧ ∃ n24 n25 n26, ((0 : Int) ≤ n16 ∧ (3 : Nat) = (3 : Nat) ∧ (List.map TFePoint.av x.Points)[n16.toNat]? = some (AV.agg [AV.int IntKind.i64 n24, AV.int IntKind.i64 n25, AV.int IntKind.i64 n26])) ∧ (decide (n20 ≤ n24) = true → Q (AV.int IntKind.i64 (2 : Int)) []) ∧ (decide (n20 ≤ n24) = false → (decide (n21 > n25) = true → Q (AV.int IntKind.i64 (2 : Int)) []) ∧ (decide (n21 > n25) = false → (decide (n22 > n26) = true → Q (AV.int IntKind.i64 (2 : Int)) []) ∧ (decide (n22 > n26) = false → x.cs = x.cs ∧ ∃ k35, k35 < m15 ∧ I13 k35 [AV.int IntKind.i64 (IntKind.i64.wrap (n16 + (1 : Int)))])))) ∧ (decide (n16 < (↑(List.take ((↑(List.map TFePoint.av x.Points).length : Int).toNat - Int.toNat (1 : Int)) (List.drop (Int.toNat (1 : Int)) (List.map TFePoint.av x.Points))).length : Int)) = false → Q (AV.int IntKind.i64 (0 : Int)) []))))
theorem r49 (a0 : Int) (x : TFeFuse) (S : SpecF) (Fr : FuncId → List AV → Nat → List AV → Prop) (Sq : FuncId → List AV → List (List AV) → List (List AV) → Prop) (Q : AV → List (List AV) → Prop) : awpF Try.prog (mkS Try.prog S Fr Sq ⟨[], [], [98, 97], [], []⟩ 0) 0 ⟨[1, 3, 4, 5, 6, 7, 8, 13, 23, 26, 27, 28, 29, 60], [⟨7, [(28, .int .i64 0)], [], [], [], []⟩], [], []⟩ Try.f49 [.int .i64 a0, x.av] [] Q = R49 a0 x S Fr Sq Q := by kernel_rfl
theorem s49 (a0 : Int) (x : TFeFuse) (v : AV) (O : List (List AV)) (h : R49 a0 x (SpecOf Try.prog) (FreshOf Try.prog) (SeqOf Try.prog) (fun r O' => r = v ∧ O' = O)) : SpecOf Try.prog 49 [.int .i64 a0, x.av] [] v O :=
  spec_by (boxes := []) mixed (by exact trivial) Try.func49 Try.call49 rfl rfl rfl (Nat.le_of_ble_eq_true rfl) (r49 a0 x (SpecOf Try.prog) (FreshOf Try.prog) (SeqOf Try.prog) _) h
theorem c49 (i : Nat) (x : TFeFuse) : Sp 49 [.int .i64 i, x.av] [] (.int .i64 (curveS i x)) [] := s49 i x _ _ (by
  unfold R49
  simp only [List.length_map]
  refine ⟨_, c43 _ _ _, fun h1 => ⟨?_, trivial⟩, fun h1 => ⟨_, c43 _ _ _, fun h2 => ⟨?_, trivial⟩, fun h2 => ?_⟩⟩
  · rw [curveS, if_pos h1]
  · have h1' : ¬ (!inB x.Points.length 1 8) = true := by rw [h1]; simp
    rw [curveS, if_neg h1', h2]; rfl
  have h1' : ¬ (!inB x.Points.length 1 8) = true := by rw [h1]; simp
  have h8 := inB_iff.1 (by simpa using h1 : inB x.Points.length 1 8 = true)
  refine ⟨_, c98 x.Points (by omega), fun h3 => ⟨?_, trivial⟩, fun h3 => ⟨⟨by omega, by omega, by omega, elems_map (f := TFePoint.av) (n := 3) (fun _ => rfl) _⟩, ?_⟩⟩
  · rw [curveS, if_neg h1', h2, h3]; rfl
  have hc : curveS i x = stepsS x.Points := by rw [curveS, if_neg h1', h2, h3]; rfl
  have hto : ((x.Points.length : Int)).toNat - (1 : Int).toNat = x.Points.length - 1 := by omega
  have hlen : (List.take (((x.Points.length : Int)).toNat - (1 : Int).toNat) (List.drop (1 : Int).toNat (List.map TFePoint.av x.Points))).length = x.Points.length - 1 := by rw [List.length_take, List.length_drop, List.length_map]; omega
  simp only [hlen]
  refine ⟨fun m vs => ∃ n : Nat, vs = [.int .i64 n] ∧ n ≤ x.Points.length - 1 ∧ m = x.Points.length - 1 - n ∧ stepsS (x.Points.drop n) = stepsS x.Points, ⟨_, 0, rfl, by omega, rfl, rfl⟩, ?_⟩
  rintro m n ⟨k, hk, hle, rfl, hn⟩
  cases hk
  refine ⟨fun h4 => ?_, fun h4 => ⟨?_, trivial⟩⟩
  · have h4 : k < x.Points.length - 1 := by simpa using h4
    obtain ⟨a, ha, ha'⟩ := map_getN (f := TFePoint.av) (l := x.Points) (k := k) (by omega)
    obtain ⟨b, hb, hb'⟩ := map_getN (f := TFePoint.av) (l := x.Points) (k := k + 1) (by omega)
    have hat := stepsS_at ha hb
    have h4' : k + 1 ≤ x.Points.length - 1 := h4
    have hb2 : (List.take (((x.Points.length : Int)).toNat - (1 : Int).toNat) (List.drop (1 : Int).toNat (List.map TFePoint.av x.Points)))[(k : Int).toNat]? = some b.av := by
      rw [List.getElem?_take, if_pos (by omega), List.getElem?_drop]
      have : (1 : Int).toNat + (k : Int).toNat = ((k + 1 : Nat) : Int).toNat := by omega
      rw [this]; exact hb'
    refine ⟨b.Current, b.Melt.Lo, b.Melt.Hi, ⟨by omega, trivial, hb2⟩, a.Current, a.Melt.Lo, a.Melt.Hi, ⟨by omega, trivial, ha'⟩, fun h5 => ⟨?_, trivial⟩, fun h5 => ⟨fun h6 => ⟨?_, trivial⟩, fun h6 => ⟨fun h7 => ⟨?_, trivial⟩, fun h7 => ⟨by trivial, _, ?_, k + 1, ?_, h4', rfl, ?_⟩⟩⟩⟩
    · rw [hc, ← hn, hat, stepB, h5]; rfl
    · rw [hc, ← hn, hat, stepB, h5, h6]; rfl
    · rw [hc, ← hn, hat, stepB, h5, h6, h7]; rfl
    · omega
    · rw [wrapN (by omega)]
    · rw [← hn, hat, stepB, h5, h6, h7]; rfl
  · have : k = x.Points.length - 1 := by simp at h4; omega
    rw [hc, ← hn, stepsS_end (by omega)])
def R44 (l : List TFeCable) (S : SpecF) (Fr : FuncId → List AV → Nat → List AV → Prop) (Sq : FuncId → List AV → List (List AV) → List (List AV) → Prop) (Q : AV → List (List AV) → Prop) : Prop :=
  ∃ (I0 : Nat → List AV → Prop), (∃ m2, I0 m2 [AV.int IntKind.i64 (0 : Int)]) ∧ ∀ (m2 : Nat) (n3 : Int), I0 m2 [AV.int IntKind.i64 n3] → (decide (n3 < (↑(List.map TFeCable.av l).length : Int)) = true → ∃ s7 n8 n9 n10 n11 n12, ((0 : Int) ≤ n3 ∧ (6 : Nat) = (6 : Nat) ∧ (List.map TFeCable.av l)[n3.toNat]? = some (AV.agg [AV.str s7, AV.int IntKind.i64 n8, AV.int IntKind.i64 n9, AV.int IntKind.i64 n10, AV.int IntKind.i64 n11, AV.int IntKind.i64 n12])) ∧ ∃ s14, S (45 : FuncId) [AV.agg [AV.str s7, AV.int IntKind.i64 n8, AV.int IntKind.i64 n9, AV.int IntKind.i64 n10, AV.int IntKind.i64 n11, AV.int IntKind.i64 n12]] [] (AV.str s14) [] ∧ ∃ b16, S (93 : Nat) [AV.str s14] [] (AV.bool b16) [] ∧ ((!b16) = true → Q (AV.tup [AV.int IntKind.i64 n3, AV.int IntKind.i64 (6 : Int)]) []) ∧ ((!b16) = false → ((0 : Int) ≤ n3 ∧ n3 ≤ (↑(List.map TFeCable.av l).length : Int)) ∧ ∃ b21, S (94 : Nat) [AV.slc (3 : Nat) (List.take n3.toNat (List.map TFeCable.av l)), AV.fn (92 : Nat) [] [AV.ref (0 : Nat) (0 : Nat), AV.ref (1 : Nat) (0 : Nat)]] [[AV.fn (45 : FuncId) [] []], [AV.str s7, AV.int IntKind.i64 n8, AV.int IntKind.i64 n9, AV.int IntKind.i64 n10, AV.int IntKind.i64 n11, AV.int IntKind.i64 n12]] (AV.bool b21) [[AV.fn (45 : FuncId) [] []], [AV.str s7, AV.int IntKind.i64 n8, AV.int IntKind.i64 n9, AV.int IntKind.i64 n10, AV.int IntKind.i64 n11, AV.int IntKind.i64 n12]] ∧ (b21 = true → Q (AV.tup [AV.int IntKind.i64 n3, AV.int IntKind.i64 (5 : Int)]) []) ∧ (b21 = false → ∃ n25, S (46 : FuncId) [AV.int IntKind.i64 n3, AV.agg [AV.str s7, AV.int IntKind.i64 n8, AV.int IntKind.i64 n9, AV.int IntKind.i64 n10, AV.int IntKind.i64 n11, AV.int IntKind.i64 n12]] [] (AV.int IntKind.i64 n25) [] ∧ ((n25 != (0 : Int)) = true → Q (AV.tup [AV.int IntKind.i64 n3, AV.int IntKind.i64 n25]) []) ∧ ((n25 != (0 : Int)) = false → [AV.fn (45 : FuncId) [] []] = [AV.fn (45 : FuncId) [] []] ∧ ∃ k30, k30 < m2 ∧ I0 k30 [AV.int IntKind.i64 (IntKind.i64.wrap (n3 + (1 : Int)))])))) ∧ (decide (n3 < (↑(List.map TFeCable.av l).length : Int)) = false → Q (AV.tup TEncl.zero.cs) [])
theorem r44 (l : List TFeCable) (S : SpecF) (Fr : FuncId → List AV → Nat → List AV → Prop) (Sq : FuncId → List AV → List (List AV) → List (List AV) → Prop) (Q : AV → List (List AV) → Prop) : awpF Try.prog (mkS Try.prog S Fr Sq ⟨[], [], [94, 92], [], []⟩ 0) 0 ⟨[0, 1, 2, 4, 6, 7, 8, 9, 10, 11, 12, 13, 14, 15, 20, 27, 39], [⟨2, [(14, .int .i64 0)], [], [], [], []⟩], [], []⟩ Try.f44 [.slc 3 (List.map TFeCable.av l), .fn 45 [] [], .fn 46 [] []] [] Q = R44 l S Fr Sq Q := by kernel_rfl
theorem s44 (l : List TFeCable) (v : AV) (O : List (List AV)) (h : R44 l (SpecOf Try.prog) (FreshOf Try.prog) (SeqOf Try.prog) (fun r O' => r = v ∧ O' = O)) : SpecOf Try.prog 44 [.slc 3 (List.map TFeCable.av l), .fn 45 [] [], .fn 46 [] []] [] v O :=
  spec_by (boxes := []) mixed (by exact trivial) Try.func44 Try.call44 rfl rfl rfl (Nat.le_of_ble_eq_true rfl) (r44 l (SpecOf Try.prog) (FreshOf Try.prog) (SeqOf Try.prog) _) h
theorem c44 (l : List TFeCable) (hl : l.length ≤ 1000) (hnm : ∀ x ∈ l, x.Name.size ≤ 9223372036854775807) : Sp 44 [.slc 3 (List.map TFeCable.av l), .fn 45 [] [], .fn 46 [] []] [] (.tup [.int .i64 (firstE (errAt TFeCable.Name cableS l) l.length 0).1, .int .i64 (firstE (errAt TFeCable.Name cableS l) l.length 0).2]) [] := s44 l _ _ (by
  refine ⟨fun m vs => ∃ n : Nat, vs = [.int .i64 n] ∧ n ≤ l.length ∧ m = l.length - n ∧ firstE (errAt TFeCable.Name cableS l) (l.length - n) n = firstE (errAt TFeCable.Name cableS l) l.length 0, ⟨_, 0, rfl, by omega, rfl, rfl⟩, ?_⟩
  intro m n
  rintro ⟨k, hk, hle, rfl, hn⟩
  cases hk
  refine ⟨fun h3 => ?_, fun h3 => ⟨?_, rfl⟩⟩
  · have h3 : k < l.length := by simpa using h3
    obtain ⟨x, hx, hx'⟩ := map_getN (f := TFeCable.av) h3
    have hat := errAt_some (nm := TFeCable.Name) (rest := cableS) hx
    have hf := firstE_at (e := errAt TFeCable.Name cableS l) h3
    have hmem : x ∈ l := List.mem_of_getElem? hx
    have htake : List.take (k : Int).toNat (List.map TFeCable.av l) = List.map TFeCable.av (l.take k) := by rw [Int.toNat_natCast, List.map_take]
    refine ⟨x.Name, x.Core.Lo, x.Core.Hi, x.Earth.Lo, x.Earth.Hi, x.Rated, ⟨by omega, rfl, hx'⟩, _, c45 x, _, c93 _ (hnm x hmem), fun h4 => ⟨?_, rfl⟩, fun h4 => ⟨⟨by omega, by simp; omega⟩, ((l.take k).any fun z => twinB z.Name x.Name), (by rw [htake]; exact c94 (l.take k) x (by rw [List.length_take]; omega)), fun h5 => ⟨?_, rfl⟩, fun h5 => ⟨_, c46 k x, fun h6 => ⟨?_, rfl⟩, fun h6 => ⟨rfl, _, (by omega : l.length - (k + 1) < l.length - k), k + 1, ?_, by omega, rfl, ?_⟩⟩⟩⟩
    · have he : errAt TFeCable.Name cableS l k = 6 := by rw [hat, if_pos h4]
      rw [← hn, hf, he]; rfl
    · have h4' : ¬ (!nameB x.Name) = true := by rw [h4]; simp
      have he : errAt TFeCable.Name cableS l k = 5 := by rw [hat, if_neg h4', if_pos h5]
      rw [← hn, hf, he]; rfl
    · have h4' : ¬ (!nameB x.Name) = true := by rw [h4]; simp
      have h5' : ¬ ((l.take k).any fun z => twinB z.Name x.Name) = true := by rw [h5]; simp
      have he : errAt TFeCable.Name cableS l k = cableS k x := by rw [hat, if_neg h4', if_neg h5']
      have h6 : cableS k x ≠ 0 := by simpa using h6
      rw [← hn, hf, he, if_pos h6]
    · rw [wrapN (by omega)]; try rfl
    · have h4' : ¬ (!nameB x.Name) = true := by rw [h4]; simp
      have h5' : ¬ ((l.take k).any fun z => twinB z.Name x.Name) = true := by rw [h5]; simp
      have he : errAt TFeCable.Name cableS l k = cableS k x := by rw [hat, if_neg h4', if_neg h5']
      have h6 : cableS k x = 0 := by simpa using h6
      rw [← hn, hf, he, if_neg (by rw [h6]; simp)]
  · have : k = l.length := by simp at h3; omega
    rw [← hn, this, Nat.sub_self]; rfl)
def R47 (l : List TFeFuse) (S : SpecF) (Fr : FuncId → List AV → Nat → List AV → Prop) (Sq : FuncId → List AV → List (List AV) → List (List AV) → Prop) (Q : AV → List (List AV) → Prop) : Prop :=
  ∃ (I0 : Nat → List AV → Prop), (∃ m2, I0 m2 [AV.int IntKind.i64 (0 : Int)]) ∧ ∀ (m2 : Nat) (n3 : Int), I0 m2 [AV.int IntKind.i64 n3] → (decide (n3 < (↑(List.map TFeFuse.av l).length : Int)) = true → ∃ s7 n8 es9, ((0 : Int) ≤ n3 ∧ (3 : Nat) = (3 : Nat) ∧ (List.map TFeFuse.av l)[n3.toNat]? = some (AV.agg [AV.str s7, AV.int IntKind.i64 n8, AV.slc (3 : Nat) es9])) ∧ ∃ s11, S (48 : FuncId) [AV.agg [AV.str s7, AV.int IntKind.i64 n8, AV.slc (3 : Nat) es9]] [] (AV.str s11) [] ∧ ∃ b13, S (93 : Nat) [AV.str s11] [] (AV.bool b13) [] ∧ ((!b13) = true → Q (AV.tup [AV.int IntKind.i64 n3, AV.int IntKind.i64 (6 : Int)]) []) ∧ ((!b13) = false → ((0 : Int) ≤ n3 ∧ n3 ≤ (↑(List.map TFeFuse.av l).length : Int)) ∧ ∃ b18, S (96 : Nat) [AV.slc (3 : Nat) (List.take n3.toNat (List.map TFeFuse.av l)), AV.fn (95 : Nat) [] [AV.ref (0 : Nat) (0 : Nat), AV.ref (1 : Nat) (0 : Nat)]] [[AV.fn (48 : FuncId) [] []], [AV.str s7, AV.int IntKind.i64 n8, AV.slc (3 : Nat) es9]] (AV.bool b18) [[AV.fn (48 : FuncId) [] []], [AV.str s7, AV.int IntKind.i64 n8, AV.slc (3 : Nat) es9]] ∧ (b18 = true → Q (AV.tup [AV.int IntKind.i64 n3, AV.int IntKind.i64 (5 : Int)]) []) ∧ (b18 = false → ∃ n22, S (49 : FuncId) [AV.int IntKind.i64 n3, AV.agg [AV.str s7, AV.int IntKind.i64 n8, AV.slc (3 : Nat) es9]] [] (AV.int IntKind.i64 n22) [] ∧ ((n22 != (0 : Int)) = true → Q (AV.tup [AV.int IntKind.i64 n3, AV.int IntKind.i64 n22]) []) ∧ ((n22 != (0 : Int)) = false → [AV.fn (48 : FuncId) [] []] = [AV.fn (48 : FuncId) [] []] ∧ ∃ k27, k27 < m2 ∧ I0 k27 [AV.int IntKind.i64 (IntKind.i64.wrap (n3 + (1 : Int)))])))) ∧ (decide (n3 < (↑(List.map TFeFuse.av l).length : Int)) = false → Q (AV.tup TEncl.zero.cs) [])
theorem r47 (l : List TFeFuse) (S : SpecF) (Fr : FuncId → List AV → Nat → List AV → Prop) (Sq : FuncId → List AV → List (List AV) → List (List AV) → Prop) (Q : AV → List (List AV) → Prop) : awpF Try.prog (mkS Try.prog S Fr Sq ⟨[], [], [96, 95], [], []⟩ 0) 0 ⟨[0, 1, 2, 4, 6, 7, 8, 9, 10, 11, 12, 13, 14, 15, 20, 27, 39], [⟨2, [(14, .int .i64 0)], [], [], [], []⟩], [], []⟩ Try.f47 [.slc 3 (List.map TFeFuse.av l), .fn 48 [] [], .fn 49 [] []] [] Q = R47 l S Fr Sq Q := by kernel_rfl
theorem s47 (l : List TFeFuse) (v : AV) (O : List (List AV)) (h : R47 l (SpecOf Try.prog) (FreshOf Try.prog) (SeqOf Try.prog) (fun r O' => r = v ∧ O' = O)) : SpecOf Try.prog 47 [.slc 3 (List.map TFeFuse.av l), .fn 48 [] [], .fn 49 [] []] [] v O :=
  spec_by (boxes := []) mixed (by exact trivial) Try.func47 Try.call47 rfl rfl rfl (Nat.le_of_ble_eq_true rfl) (r47 l (SpecOf Try.prog) (FreshOf Try.prog) (SeqOf Try.prog) _) h
theorem c47 (l : List TFeFuse) (hl : l.length ≤ 1000) (hnm : ∀ x ∈ l, x.Name.size ≤ 9223372036854775807) : Sp 47 [.slc 3 (List.map TFeFuse.av l), .fn 48 [] [], .fn 49 [] []] [] (.tup [.int .i64 (firstE (errAt TFeFuse.Name curveS l) l.length 0).1, .int .i64 (firstE (errAt TFeFuse.Name curveS l) l.length 0).2]) [] := s47 l _ _ (by
  refine ⟨fun m vs => ∃ n : Nat, vs = [.int .i64 n] ∧ n ≤ l.length ∧ m = l.length - n ∧ firstE (errAt TFeFuse.Name curveS l) (l.length - n) n = firstE (errAt TFeFuse.Name curveS l) l.length 0, ⟨_, 0, rfl, by omega, rfl, rfl⟩, ?_⟩
  intro m n
  rintro ⟨k, hk, hle, rfl, hn⟩
  cases hk
  refine ⟨fun h3 => ?_, fun h3 => ⟨?_, rfl⟩⟩
  · have h3 : k < l.length := by simpa using h3
    obtain ⟨x, hx, hx'⟩ := map_getN (f := TFeFuse.av) h3
    have hat := errAt_some (nm := TFeFuse.Name) (rest := curveS) hx
    have hf := firstE_at (e := errAt TFeFuse.Name curveS l) h3
    have hmem : x ∈ l := List.mem_of_getElem? hx
    have htake : List.take (k : Int).toNat (List.map TFeFuse.av l) = List.map TFeFuse.av (l.take k) := by rw [Int.toNat_natCast, List.map_take]
    refine ⟨x.Name, x.Rated, List.map TFePoint.av x.Points, ⟨by omega, rfl, hx'⟩, _, c48 x, _, c93 _ (hnm x hmem), fun h4 => ⟨?_, rfl⟩, fun h4 => ⟨⟨by omega, by simp; omega⟩, ((l.take k).any fun z => twinB z.Name x.Name), (by rw [htake]; exact c96 (l.take k) x (by rw [List.length_take]; omega)), fun h5 => ⟨?_, rfl⟩, fun h5 => ⟨_, c49 k x, fun h6 => ⟨?_, rfl⟩, fun h6 => ⟨rfl, _, (by omega : l.length - (k + 1) < l.length - k), k + 1, ?_, by omega, rfl, ?_⟩⟩⟩⟩
    · have he : errAt TFeFuse.Name curveS l k = 6 := by rw [hat, if_pos h4]
      rw [← hn, hf, he]; rfl
    · have h4' : ¬ (!nameB x.Name) = true := by rw [h4]; simp
      have he : errAt TFeFuse.Name curveS l k = 5 := by rw [hat, if_neg h4', if_pos h5]
      rw [← hn, hf, he]; rfl
    · have h4' : ¬ (!nameB x.Name) = true := by rw [h4]; simp
      have h5' : ¬ ((l.take k).any fun z => twinB z.Name x.Name) = true := by rw [h5]; simp
      have he : errAt TFeFuse.Name curveS l k = curveS k x := by rw [hat, if_neg h4', if_neg h5']
      have h6 : curveS k x ≠ 0 := by simpa using h6
      rw [← hn, hf, he, if_pos h6]
    · rw [wrapN (by omega)]; try rfl
    · have h4' : ¬ (!nameB x.Name) = true := by rw [h4]; simp
      have h5' : ¬ ((l.take k).any fun z => twinB z.Name x.Name) = true := by rw [h5]; simp
      have he : errAt TFeFuse.Name curveS l k = curveS k x := by rw [hat, if_neg h4', if_neg h5']
      have h6 : curveS k x = 0 := by simpa using h6
      rw [← hn, hf, he, if_neg (by rw [h6]; simp)]
  · have : k = l.length := by simp at h3; omega
    rw [← hn, this, Nat.sub_self]; rfl)
def R53 (f : TFeFeeder) (i : Int) (x : TFeNode) (S : SpecF) (Fr : FuncId → List AV → Nat → List AV → Prop) (Sq : FuncId → List AV → List (List AV) → List (List AV) → Prop) (Q : AV → List (List AV) → Prop) : Prop :=
  ((i == (0 : Int)) = true → ((!(x.Name.toList == x.Name.toList && (x.Parent == (-1 : Int) && (x.Cable == (-1 : Int) && (x.Length == (0 : Int) && (x.Fuse == (-1 : Int) && (x.Loads0.Lo == (0 : Int) && (x.Loads0.Hi == (0 : Int) && true) && (x.Loads1.Lo == (0 : Int) && (x.Loads1.Hi == (0 : Int) && true) && (x.Loads2.Lo == (0 : Int) && (x.Loads2.Hi == (0 : Int) && true) && true)) && true))))))) = true → Q (AV.int IntKind.i64 (2 : Int)) []) ∧ ((!(x.Name.toList == x.Name.toList && (x.Parent == (-1 : Int) && (x.Cable == (-1 : Int) && (x.Length == (0 : Int) && (x.Fuse == (-1 : Int) && (x.Loads0.Lo == (0 : Int) && (x.Loads0.Hi == (0 : Int) && true) && (x.Loads1.Lo == (0 : Int) && (x.Loads1.Hi == (0 : Int) && true) && (x.Loads2.Lo == (0 : Int) && (x.Loads2.Hi == (0 : Int) && true) && true)) && true))))))) = false → Q (AV.int IntKind.i64 (0 : Int)) [])) ∧ ((i == (0 : Int)) = false → ∃ b2, S (43 : Nat) [AV.int IntKind.i64 x.Parent, AV.int IntKind.i64 (0 : Int), AV.int IntKind.i64 (IntKind.i64.wrap (i - (1 : Int)))] [] (AV.bool b2) [] ∧ ((!b2) = true → Q (AV.int IntKind.i64 (4 : Int)) []) ∧ ((!b2) = false → ∃ b6, S (43 : Nat) [AV.int IntKind.i64 x.Cable, AV.int IntKind.i64 (0 : Int), AV.int IntKind.i64 (IntKind.i64.wrap ((↑(List.map TFeCable.av f.Cables).length : Int) - (1 : Int)))] [] (AV.bool b6) [] ∧ ((!b6) = true → Q (AV.int IntKind.i64 (4 : Int)) []) ∧ ((!b6) = false → ∃ b10, S (43 : Nat) [AV.int IntKind.i64 x.Fuse, AV.int IntKind.i64 (-1 : Int), AV.int IntKind.i64 (IntKind.i64.wrap ((↑(List.map TFeFuse.av f.Fuses).length : Int) - (1 : Int)))] [] (AV.bool b10) [] ∧ ((!b10) = true → Q (AV.int IntKind.i64 (4 : Int)) []) ∧ ((!b10) = false → ∃ b14, S (43 : Nat) [AV.int IntKind.i64 x.Length, AV.int IntKind.i64 (1 : Int), AV.int IntKind.i64 (5000 : Int)] [] (AV.bool b14) [] ∧ ((!b14) = true → Q (AV.int IntKind.i64 (7 : Int)) []) ∧ ((!b14) = false → (11 : Nat) ≤ (11 : Nat) ∧ ∃ b19, S (102 : Nat) [AV.slc (3 : Nat) [x.Loads0.av, x.Loads1.av, x.Loads2.av], AV.fn (101 : Nat) [] []] [] (AV.bool b19) [] ∧ (b19 = true → Q (AV.int IntKind.i64 (7 : Int)) []) ∧ (b19 = false → Q (AV.int IntKind.i64 (0 : Int)) []))))))
theorem r53 (f : TFeFeeder) (i : Int) (x : TFeNode) (S : SpecF) (Fr : FuncId → List AV → Nat → List AV → Prop) (Sq : FuncId → List AV → List (List AV) → List (List AV) → Prop) (Q : AV → List (List AV) → Prop) : awpF Try.prog (mkS Try.prog S Fr Sq ⟨[], [], [], [], []⟩ 0) 0 ⟨[0, 1, 2, 3, 5, 6, 7, 9, 14, 15, 42], [], [], []⟩ Try.f53 [f.av, .int .i64 i, x.av] [] Q = R53 f i x S Fr Sq Q := by kernel_rfl
theorem s53 (f : TFeFeeder) (i : Int) (x : TFeNode) (v : AV) (O : List (List AV)) (h : R53 f i x (SpecOf Try.prog) (FreshOf Try.prog) (SeqOf Try.prog) (fun r O' => r = v ∧ O' = O)) : SpecOf Try.prog 53 [f.av, .int .i64 i, x.av] [] v O :=
  spec_by (boxes := []) mixed (by exact trivial) Try.func53 Try.call53 rfl rfl rfl (Nat.le_of_ble_eq_true rfl) (r53 f i x (SpecOf Try.prog) (FreshOf Try.prog) (SeqOf Try.prog) _) h
theorem c53 (f : TFeFeeder) (i : Nat) (x : TFeNode) (h1 : f.Cables.length ≤ 1000000) (h2 : f.Fuses.length ≤ 1000000) (h3 : i ≤ 1000000) : Sp 53 [f.av, .int .i64 i, x.av] [] (.int .i64 (nodeS f.Cables.length f.Fuses.length i x)) [] := s53 f i x _ _ (by
  unfold R53
  simp only [List.length_map]
  have hb : (x.Name.toList == x.Name.toList && (x.Parent == (-1 : Int) && (x.Cable == (-1 : Int) && (x.Length == (0 : Int) && (x.Fuse == (-1 : Int) && (x.Loads0.Lo == (0 : Int) && (x.Loads0.Hi == (0 : Int) && true) && (x.Loads1.Lo == (0 : Int) && (x.Loads1.Hi == (0 : Int) && true) && (x.Loads2.Lo == (0 : Int) && (x.Loads2.Hi == (0 : Int) && true) && true)) && true)))))) = blankB x := by
    simp only [beq_self_eq_true, Bool.true_and, Bool.and_true, blankB, zE]
  rw [hb]
  refine ⟨fun h0 => ?_, fun h0 => ?_⟩
  · have h0 : i = 0 := by simp at h0; omega
    subst h0
    refine ⟨fun h => ⟨?_, trivial⟩, fun h => ⟨?_, trivial⟩⟩ <;> simp_all [nodeS]
  · have h0 : i ≠ 0 := by simp at h0; omega
    have e1 : IntKind.i64.wrap ((i : Int) - 1) = (i : Int) - 1 := i64 (by omega)
    have e2 : IntKind.i64.wrap ((f.Cables.length : Int) - 1) = (f.Cables.length : Int) - 1 := i64 (by omega)
    have e3 : IntKind.i64.wrap ((f.Fuses.length : Int) - 1) = (f.Fuses.length : Int) - 1 := i64 (by omega)
    rw [e1, e2, e3]
    refine ⟨_, c43 _ _ _, fun g1 => ⟨?_, trivial⟩, fun g1 => ⟨_, c43 _ _ _, fun g2 => ⟨?_, trivial⟩, fun g2 => ⟨_, c43 _ _ _, fun g3 => ⟨?_, trivial⟩, fun g3 => ⟨_, c43 _ _ _, fun g4 => ⟨?_, trivial⟩, fun g4 => ⟨by omega, _, c102 [x.Loads0, x.Loads1, x.Loads2] (Nat.le_of_ble_eq_true rfl), fun g5 => ⟨?_, trivial⟩, fun g5 => ⟨?_, trivial⟩⟩⟩⟩⟩⟩ <;> rw [nodeS, if_neg h0] <;> simp only [Bool.not_eq_true', Bool.not_eq_false'] at g1 <;> (try simp only [Bool.not_eq_true', Bool.not_eq_false'] at g2) <;> (try simp only [Bool.not_eq_true', Bool.not_eq_false'] at g3) <;> (try simp only [Bool.not_eq_true', Bool.not_eq_false'] at g4) <;> simp only [*] <;> rfl)
def R52 (i : Int) (x : TFeNode) (v0 : TFeFeeder) (S : SpecF) (Fr : FuncId → List AV → Nat → List AV → Prop) (Sq : FuncId → List AV → List (List AV) → List (List AV) → Prop) (Q : AV → List (List AV) → Prop) : Prop :=
  ∃ n0, S (53 : Nat) [v0.av, AV.int IntKind.i64 i, x.av] [] (AV.int IntKind.i64 n0) [] ∧ Q (AV.int IntKind.i64 n0) [v0.cs]
theorem r52 (i : Int) (x : TFeNode) (v0 : TFeFeeder) (S : SpecF) (Fr : FuncId → List AV → Nat → List AV → Prop) (Sq : FuncId → List AV → List (List AV) → List (List AV) → Prop) (Q : AV → List (List AV) → Prop) : awpF Try.prog (mkS Try.prog S Fr Sq ⟨[], [], [], [], []⟩ 0) 1 ⟨[0, 1, 2, 4, 5], [], [], []⟩ Try.f52 [.int .i64 i, x.av, .ref 0 0] [⟨28, false, v0.cs⟩] Q = R52 i x v0 S Fr Sq Q := by kernel_rfl
theorem s52 (i : Int) (x : TFeNode) (v0 : TFeFeeder) (v : AV) (O : List (List AV)) (h : R52 i x v0 (SpecOf Try.prog) (FreshOf Try.prog) (SeqOf Try.prog) (fun r O' => r = v ∧ O' = O)) : SpecOf Try.prog 52 [.int .i64 i, x.av, .ref 0 0] [v0.cs] v O :=
  spec_by (boxes := [⟨28, false, v0.cs⟩]) mixed (by exact trivial) Try.func52 Try.call52 rfl rfl rfl (Nat.le_of_ble_eq_true rfl) (r52 i x v0 (SpecOf Try.prog) (FreshOf Try.prog) (SeqOf Try.prog) _) h
theorem c52 (i : Nat) (x : TFeNode) (f : TFeFeeder) (h1 : f.Cables.length ≤ 1000000) (h2 : f.Fuses.length ≤ 1000000) (h3 : i ≤ 1000000) : Sp 52 [.int .i64 i, x.av, .ref 0 0] [f.cs] (.int .i64 (nodeS f.Cables.length f.Fuses.length i x)) [f.cs] := s52 i x f _ _ ⟨_, c53 f i x h1 h2 h3, rfl, rfl⟩
def R50 (l : List TFeNode) (rest0 : TFeFeeder) (S : SpecF) (Fr : FuncId → List AV → Nat → List AV → Prop) (Sq : FuncId → List AV → List (List AV) → List (List AV) → Prop) (Q : AV → List (List AV) → Prop) : Prop :=
  ∃ (I0 : Nat → List AV → Prop), (∃ m2, I0 m2 [AV.int IntKind.i64 (0 : Int), rest0.av]) ∧ ∀ (m2 : Nat) (n3 : Int) (es4 es5 es6 : List AV) (n7 n8 n9 n10 n11 n12 : Int), I0 m2 [AV.int IntKind.i64 n3, AV.agg [AV.slc (3 : Nat) es4, AV.slc (3 : Nat) es5, AV.slc (3 : Nat) es6, AV.int IntKind.i64 n7, AV.int IntKind.i64 n8, AV.int IntKind.i64 n9, AV.int IntKind.i64 n10, AV.int IntKind.i64 n11, AV.int IntKind.i64 n12]] → (decide (n3 < (↑(List.map TFeNode.av l).length : Int)) = true → ∃ s16 n17 n18 n19 n20 n21 n22 n23 n24 n25 n26, ((0 : Int) ≤ n3 ∧ (11 : Nat) = (11 : Nat) ∧ (List.map TFeNode.av l)[n3.toNat]? = some (AV.agg [AV.str s16, AV.int IntKind.i64 n17, AV.int IntKind.i64 n18, AV.int IntKind.i64 n19, AV.int IntKind.i64 n20, AV.int IntKind.i64 n21, AV.int IntKind.i64 n22, AV.int IntKind.i64 n23, AV.int IntKind.i64 n24, AV.int IntKind.i64 n25, AV.int IntKind.i64 n26])) ∧ ∃ s28, S (51 : FuncId) [AV.agg [AV.str s16, AV.int IntKind.i64 n17, AV.int IntKind.i64 n18, AV.int IntKind.i64 n19, AV.int IntKind.i64 n20, AV.int IntKind.i64 n21, AV.int IntKind.i64 n22, AV.int IntKind.i64 n23, AV.int IntKind.i64 n24, AV.int IntKind.i64 n25, AV.int IntKind.i64 n26]] [] (AV.str s28) [] ∧ ∃ b30, S (93 : Nat) [AV.str s28] [] (AV.bool b30) [] ∧ ((!b30) = true → Q (AV.tup [AV.int IntKind.i64 n3, AV.int IntKind.i64 (6 : Int)]) [[AV.slc (3 : Nat) es4, AV.slc (3 : Nat) es5, AV.slc (3 : Nat) es6, AV.int IntKind.i64 n7, AV.int IntKind.i64 n8, AV.int IntKind.i64 n9, AV.int IntKind.i64 n10, AV.int IntKind.i64 n11, AV.int IntKind.i64 n12]]) ∧ ((!b30) = false → ((0 : Int) ≤ n3 ∧ n3 ≤ (↑(List.map TFeNode.av l).length : Int)) ∧ ∃ b35, S (100 : Nat) [AV.slc (3 : Nat) (List.take n3.toNat (List.map TFeNode.av l)), AV.fn (99 : Nat) [] [AV.ref (0 : Nat) (0 : Nat), AV.ref (1 : Nat) (0 : Nat)]] [[AV.fn (51 : FuncId) [] []], [AV.str s16, AV.int IntKind.i64 n17, AV.int IntKind.i64 n18, AV.int IntKind.i64 n19, AV.int IntKind.i64 n20, AV.int IntKind.i64 n21, AV.int IntKind.i64 n22, AV.int IntKind.i64 n23, AV.int IntKind.i64 n24, AV.int IntKind.i64 n25, AV.int IntKind.i64 n26]] (AV.bool b35) [[AV.fn (51 : FuncId) [] []], [AV.str s16, AV.int IntKind.i64 n17, AV.int IntKind.i64 n18, AV.int IntKind.i64 n19, AV.int IntKind.i64 n20, AV.int IntKind.i64 n21, AV.int IntKind.i64 n22, AV.int IntKind.i64 n23, AV.int IntKind.i64 n24, AV.int IntKind.i64 n25, AV.int IntKind.i64 n26]] ∧ (b35 = true → Q (AV.tup [AV.int IntKind.i64 n3, AV.int IntKind.i64 (5 : Int)]) [[AV.slc (3 : Nat) es4, AV.slc (3 : Nat) es5, AV.slc (3 : Nat) es6, AV.int IntKind.i64 n7, AV.int IntKind.i64 n8, AV.int IntKind.i64 n9, AV.int IntKind.i64 n10, AV.int IntKind.i64 n11, AV.int IntKind.i64 n12]]) ∧ (b35 = false → ∃ n39 es40 es41 es42 n43 n44 n45 n46 n47 n48, S (52 : FuncId) [AV.int IntKind.i64 n3, AV.agg [AV.str s16, AV.int IntKind.i64 n17, AV.int IntKind.i64 n18, AV.int IntKind.i64 n19, AV.int IntKind.i64 n20, AV.int IntKind.i64 n21, AV.int IntKind.i64 n22, AV.int IntKind.i64 n23, AV.int IntKind.i64 n24, AV.int IntKind.i64 n25, AV.int IntKind.i64 n26], AV.ref (0 : Nat) (0 : Nat)] [[AV.slc (3 : Nat) es4, AV.slc (3 : Nat) es5, AV.slc (3 : Nat) es6, AV.int IntKind.i64 n7, AV.int IntKind.i64 n8, AV.int IntKind.i64 n9, AV.int IntKind.i64 n10, AV.int IntKind.i64 n11, AV.int IntKind.i64 n12]] (AV.int IntKind.i64 n39) [[AV.slc (3 : Nat) es40, AV.slc (3 : Nat) es41, AV.slc (3 : Nat) es42, AV.int IntKind.i64 n43, AV.int IntKind.i64 n44, AV.int IntKind.i64 n45, AV.int IntKind.i64 n46, AV.int IntKind.i64 n47, AV.int IntKind.i64 n48]] ∧ ((n39 != (0 : Int)) = true → Q (AV.tup [AV.int IntKind.i64 n3, AV.int IntKind.i64 n39]) [[AV.slc (3 : Nat) es40, AV.slc (3 : Nat) es41, AV.slc (3 : Nat) es42, AV.int IntKind.i64 n43, AV.int IntKind.i64 n44, AV.int IntKind.i64 n45, AV.int IntKind.i64 n46, AV.int IntKind.i64 n47, AV.int IntKind.i64 n48]]) ∧ ((n39 != (0 : Int)) = false → [AV.fn (51 : FuncId) [] []] = [AV.fn (51 : FuncId) [] []] ∧ ∃ k53, k53 < m2 ∧ I0 k53 [AV.int IntKind.i64 (IntKind.i64.wrap (n3 + (1 : Int))), AV.agg [AV.slc (3 : Nat) es40, AV.slc (3 : Nat) es41, AV.slc (3 : Nat) es42, AV.int IntKind.i64 n43, AV.int IntKind.i64 n44, AV.int IntKind.i64 n45, AV.int IntKind.i64 n46, AV.int IntKind.i64 n47, AV.int IntKind.i64 n48]])))) ∧ (decide (n3 < (↑(List.map TFeNode.av l).length : Int)) = false → Q (AV.tup TEncl.zero.cs) [[AV.slc (3 : Nat) es4, AV.slc (3 : Nat) es5, AV.slc (3 : Nat) es6, AV.int IntKind.i64 n7, AV.int IntKind.i64 n8, AV.int IntKind.i64 n9, AV.int IntKind.i64 n10, AV.int IntKind.i64 n11, AV.int IntKind.i64 n12]])
theorem r50 (l : List TFeNode) (rest0 : TFeFeeder) (S : SpecF) (Fr : FuncId → List AV → Nat → List AV → Prop) (Sq : FuncId → List AV → List (List AV) → List (List AV) → Prop) (Q : AV → List (List AV) → Prop) : awpF Try.prog (mkS Try.prog S Fr Sq ⟨[], [], [100, 99], [], []⟩ 0) 1 ⟨[0, 1, 2, 4, 6, 7, 8, 9, 10, 11, 12, 13, 14, 15, 20, 27, 39], [⟨2, [(14, .int .i64 0)], [], [(1000000, .agg [.slc 3 [], .slc 3 [], .slc 3 [], .int .i64 0, .int .i64 0, .int .i64 0, .int .i64 0, .int .i64 0, .int .i64 0])], [], []⟩], [], []⟩ Try.f50 [.slc 3 (List.map TFeNode.av l), .fn 51 [] [], .fn 52 [] [.ref 0 0]] [⟨28, false, rest0.cs⟩] Q = R50 l rest0 S Fr Sq Q := by kernel_rfl
theorem s50 (l : List TFeNode) (rest0 : TFeFeeder) (v : AV) (O : List (List AV)) (h : R50 l rest0 (SpecOf Try.prog) (FreshOf Try.prog) (SeqOf Try.prog) (fun r O' => r = v ∧ O' = O)) : SpecOf Try.prog 50 [.slc 3 (List.map TFeNode.av l), .fn 51 [] [], .fn 52 [] [.ref 0 0]] [rest0.cs] v O :=
  spec_by (boxes := [⟨28, false, rest0.cs⟩]) mixed (by exact trivial) Try.func50 Try.call50 rfl rfl rfl (Nat.le_of_ble_eq_true rfl) (r50 l rest0 (SpecOf Try.prog) (FreshOf Try.prog) (SeqOf Try.prog) _) h
theorem c50 (l : List TFeNode) (f : TFeFeeder) (h1 : f.Cables.length ≤ 1000000) (h2 : f.Fuses.length ≤ 1000000) (hl : l.length ≤ 1000) (hnm : ∀ x ∈ l, x.Name.size ≤ 9223372036854775807) : Sp 50 [.slc 3 (List.map TFeNode.av l), .fn 51 [] [], .fn 52 [] [.ref 0 0]] [f.cs] (.tup [.int .i64 (firstE (errAt TFeNode.Name (nodeS f.Cables.length f.Fuses.length) l) l.length 0).1, .int .i64 (firstE (errAt TFeNode.Name (nodeS f.Cables.length f.Fuses.length) l) l.length 0).2]) [f.cs] := s50 l f _ _ (by
  refine ⟨fun m vs => ∃ n : Nat, vs = [.int .i64 n, f.av] ∧ n ≤ l.length ∧ m = l.length - n ∧ firstE (errAt TFeNode.Name (nodeS f.Cables.length f.Fuses.length) l) (l.length - n) n = firstE (errAt TFeNode.Name (nodeS f.Cables.length f.Fuses.length) l) l.length 0, ⟨_, 0, rfl, by omega, rfl, rfl⟩, ?_⟩
  intro m n e1 e2 e3 m1 m2 m3 m4 m5 m6
  rintro ⟨k, hk, hle, rfl, hn⟩
  cases hk
  refine ⟨fun h3 => ?_, fun h3 => ⟨?_, rfl⟩⟩
  · have h3 : k < l.length := by simpa using h3
    obtain ⟨x, hx, hx'⟩ := map_getN (f := TFeNode.av) h3
    have hat := errAt_some (nm := TFeNode.Name) (rest := (nodeS f.Cables.length f.Fuses.length)) hx
    have hf := firstE_at (e := errAt TFeNode.Name (nodeS f.Cables.length f.Fuses.length) l) h3
    have hmem : x ∈ l := List.mem_of_getElem? hx
    have htake : List.take (k : Int).toNat (List.map TFeNode.av l) = List.map TFeNode.av (l.take k) := by rw [Int.toNat_natCast, List.map_take]
    refine ⟨x.Name, x.Parent, x.Cable, x.Length, x.Fuse, x.Loads0.Lo, x.Loads0.Hi, x.Loads1.Lo, x.Loads1.Hi, x.Loads2.Lo, x.Loads2.Hi, ⟨by omega, rfl, hx'⟩, _, c51 x, _, c93 _ (hnm x hmem), fun h4 => ⟨?_, rfl⟩, fun h4 => ⟨⟨by omega, by simp; omega⟩, ((l.take k).any fun z => twinB z.Name x.Name), (by rw [htake]; exact c100 (l.take k) x (by rw [List.length_take]; omega)), fun h5 => ⟨?_, rfl⟩, fun h5 => ⟨_, List.map TFeCable.av f.Cables, List.map TFeFuse.av f.Fuses, List.map TFeNode.av f.Nodes, f.Volts.Lo, f.Volts.Hi, f.Source.Lo, f.Source.Hi, f.Drop, f.Limit, c52 k x f h1 h2 (by omega), fun h6 => ⟨?_, rfl⟩, fun h6 => ⟨rfl, _, (by omega : l.length - (k + 1) < l.length - k), k + 1, ?_, by omega, rfl, ?_⟩⟩⟩⟩
    · have he : errAt TFeNode.Name (nodeS f.Cables.length f.Fuses.length) l k = 6 := by rw [hat, if_pos h4]
      rw [← hn, hf, he]; rfl
    · have h4' : ¬ (!nameB x.Name) = true := by rw [h4]; simp
      have he : errAt TFeNode.Name (nodeS f.Cables.length f.Fuses.length) l k = 5 := by rw [hat, if_neg h4', if_pos h5]
      rw [← hn, hf, he]; rfl
    · have h4' : ¬ (!nameB x.Name) = true := by rw [h4]; simp
      have h5' : ¬ ((l.take k).any fun z => twinB z.Name x.Name) = true := by rw [h5]; simp
      have he : errAt TFeNode.Name (nodeS f.Cables.length f.Fuses.length) l k = (nodeS f.Cables.length f.Fuses.length) k x := by rw [hat, if_neg h4', if_neg h5']
      have h6 : (nodeS f.Cables.length f.Fuses.length) k x ≠ 0 := by simpa using h6
      rw [← hn, hf, he, if_pos h6]
    · rw [wrapN (by omega)]; try rfl
    · have h4' : ¬ (!nameB x.Name) = true := by rw [h4]; simp
      have h5' : ¬ ((l.take k).any fun z => twinB z.Name x.Name) = true := by rw [h5]; simp
      have he : errAt TFeNode.Name (nodeS f.Cables.length f.Fuses.length) l k = (nodeS f.Cables.length f.Fuses.length) k x := by rw [hat, if_neg h4', if_neg h5']
      have h6 : (nodeS f.Cables.length f.Fuses.length) k x = 0 := by simpa using h6
      rw [← hn, hf, he, if_neg (by rw [h6]; simp)]
  · have : k = l.length := by simp at h3; omega
    rw [← hn, this, Nat.sub_self]; rfl)
def NOK (f : TFeFeeder) : Prop := (∀ x ∈ f.Cables, x.Name.size ≤ 9223372036854775807) ∧ (∀ x ∈ f.Fuses, x.Name.size ≤ 9223372036854775807) ∧ (∀ x ∈ f.Nodes, x.Name.size ≤ 9223372036854775807)
def tup3 (r : Int × Int × Int) : AV := .tup [.int .i64 r.1, .int .i64 r.2.1, .int .i64 r.2.2]
def R15 (f : TFeFeeder) (S : SpecF) (Fr : FuncId → List AV → Nat → List AV → Prop) (Sq : FuncId → List AV → List (List AV) → List (List AV) → Prop) (Q : AV → List (List AV) → Prop) : Prop :=
  (decide ((↑(List.map TFeCable.av f.Cables).length : Int) > (10 : Int)) = true → Q (AV.tup [AV.int IntKind.i64 (0 : Int), AV.int IntKind.i64 (0 : Int), AV.int IntKind.i64 (3 : Int)]) []) ∧ (decide ((↑(List.map TFeCable.av f.Cables).length : Int) > (10 : Int)) = false → (decide ((↑(List.map TFeFuse.av f.Fuses).length : Int) > (10 : Int)) = true → Q (AV.tup [AV.int IntKind.i64 (0 : Int), AV.int IntKind.i64 (0 : Int), AV.int IntKind.i64 (3 : Int)]) []) ∧ (decide ((↑(List.map TFeFuse.av f.Fuses).length : Int) > (10 : Int)) = false → (decide ((↑(List.map TFeNode.av f.Nodes).length : Int) > (40 : Int)) = true → Q (AV.tup [AV.int IntKind.i64 (0 : Int), AV.int IntKind.i64 (0 : Int), AV.int IntKind.i64 (3 : Int)]) []) ∧ (decide ((↑(List.map TFeNode.av f.Nodes).length : Int) > (40 : Int)) = false → (((↑(List.map TFeNode.av f.Nodes).length : Int) == (0 : Int)) = true → Q (AV.tup [AV.int IntKind.i64 (0 : Int), AV.int IntKind.i64 (0 : Int), AV.int IntKind.i64 (4 : Int)]) []) ∧ (((↑(List.map TFeNode.av f.Nodes).length : Int) == (0 : Int)) = false → ∃ b8, S (42 : Nat) [f.Volts.av, AV.int IntKind.i64 (1 : Int), AV.int IntKind.i64 (1000000 : Int)] [] (AV.bool b8) [] ∧ ((!b8) = true → Q (AV.tup [AV.int IntKind.i64 (0 : Int), AV.int IntKind.i64 (0 : Int), AV.int IntKind.i64 (7 : Int)]) []) ∧ ((!b8) = false → ∃ b12, S (42 : Nat) [f.Source.av, AV.int IntKind.i64 (1 : Int), AV.int IntKind.i64 (1000000000 : Int)] [] (AV.bool b12) [] ∧ ((!b12) = true → Q (AV.tup [AV.int IntKind.i64 (0 : Int), AV.int IntKind.i64 (0 : Int), AV.int IntKind.i64 (7 : Int)]) []) ∧ ((!b12) = false → ∃ b16, S (43 : Nat) [AV.int IntKind.i64 f.Drop, AV.int IntKind.i64 (0 : Int), AV.int IntKind.i64 (1000000 : Int)] [] (AV.bool b16) [] ∧ ((!b16) = true → Q (AV.tup [AV.int IntKind.i64 (0 : Int), AV.int IntKind.i64 (0 : Int), AV.int IntKind.i64 (7 : Int)]) []) ∧ ((!b16) = false → ∃ b20, S (43 : Nat) [AV.int IntKind.i64 f.Limit, AV.int IntKind.i64 (1 : Int), AV.int IntKind.i64 (100000000 : Int)] [] (AV.bool b20) [] ∧ ((!b20) = true → Q (AV.tup [AV.int IntKind.i64 (0 : Int), AV.int IntKind.i64 (0 : Int), AV.int IntKind.i64 (7 : Int)]) []) ∧ ((!b20) = false → ∃ n24 n25, S (44 : Nat) [AV.slc (3 : Nat) (List.map TFeCable.av f.Cables), AV.fn (45 : Nat) [] [], AV.fn (46 : Nat) [] []] [] (AV.tup [AV.int IntKind.i64 n24, AV.int IntKind.i64 n25]) [] ∧ ((n25 != (0 : Int)) = true → Q (AV.tup [AV.int IntKind.i64 (1 : Int), AV.int IntKind.i64 n24, AV.int IntKind.i64 n25]) []) ∧ ((n25 != (0 : Int)) = false → ∃ n29 n30, S (47 : Nat) [AV.slc (3 : Nat) (List.map TFeFuse.av f.Fuses), AV.fn (48 : Nat) [] [], AV.fn (49 : Nat) [] []] [] (AV.tup [AV.int IntKind.i64 n29, AV.int IntKind.i64 n30]) [] ∧ ((n30 != (0 : Int)) = true → Q (AV.tup [AV.int IntKind.i64 (2 : Int), AV.int IntKind.i64 n29, AV.int IntKind.i64 n30]) []) ∧ ((n30 != (0 : Int)) = false → ∃ n34 n35 es36 es37 es38 n39 n40 n41 n42 n43 n44, S (50 : Nat) [AV.slc (3 : Nat) (List.map TFeNode.av f.Nodes), AV.fn (51 : Nat) [] [], AV.fn (52 : Nat) [] [AV.ref (0 : Nat) (0 : Nat)]] [f.cs] (AV.tup [AV.int IntKind.i64 n34, AV.int IntKind.i64 n35]) [[AV.slc (3 : Nat) es36, AV.slc (3 : Nat) es37, AV.slc (3 : Nat) es38, AV.int IntKind.i64 n39, AV.int IntKind.i64 n40, AV.int IntKind.i64 n41, AV.int IntKind.i64 n42, AV.int IntKind.i64 n43, AV.int IntKind.i64 n44]] ∧ ((n35 != (0 : Int)) = true → Q (AV.tup [AV.int IntKind.i64 (3 : Int), AV.int IntKind.i64 n34, AV.int IntKind.i64 n35]) []) ∧ ((n35 != (0 : Int)) = false → Q (AV.tup TFeFault.zero.cs) [])))))))))))
theorem r15 (f : TFeFeeder) (S : SpecF) (Fr : FuncId → List AV → Nat → List AV → Prop) (Sq : FuncId → List AV → List (List AV) → List (List AV) → Prop) (Q : AV → List (List AV) → Prop) : awpF Try.prog (mkS Try.prog S Fr Sq ⟨[], [], [], [], []⟩ 0) 0 ⟨[0, 1, 2, 3, 4, 5, 22, 27, 57, 67, 78], [], [], []⟩ Try.f15 [f.av] [] Q = R15 f S Fr Sq Q := by kernel_rfl
theorem s15 (f : TFeFeeder) (v : AV) (O : List (List AV)) (h : R15 f (SpecOf Try.prog) (FreshOf Try.prog) (SeqOf Try.prog) (fun r O' => r = v ∧ O' = O)) : SpecOf Try.prog 15 [f.av] [] v O :=
  spec_by (boxes := []) mixed (by exact trivial) Try.func15 Try.call15 rfl rfl rfl (Nat.le_of_ble_eq_true rfl) (r15 f (SpecOf Try.prog) (FreshOf Try.prog) (SeqOf Try.prog) _) h
theorem c15 (f : TFeFeeder) (hn : NOK f) : Sp 15 [f.av] [] (tup3 (checkF f)) [] := s15 f _ _ (by
  unfold R15
  simp only [List.length_map]
  refine ⟨fun h1 => ⟨?_, trivial⟩, fun h1 => ⟨fun h2 => ⟨?_, trivial⟩, fun h2 => ⟨fun h3 => ⟨?_, trivial⟩, fun h3 => ?_⟩⟩⟩
  · rw [checkF, if_pos (.inl (by simp at h1; omega))]; rfl
  · rw [checkF, if_pos (.inr (.inl (by simp at h2; omega)))]; rfl
  · rw [checkF, if_pos (.inr (.inr (by simp at h3; omega)))]; rfl
  have h1 : f.Cables.length ≤ 10 := by simp at h1; omega
  have h2 : f.Fuses.length ≤ 10 := by simp at h2; omega
  have h3 : f.Nodes.length ≤ 40 := by simp at h3; omega
  have hl : ¬ (10 < f.Cables.length ∨ 10 < f.Fuses.length ∨ 40 < f.Nodes.length) := by omega
  refine ⟨fun h4 => ⟨?_, trivial⟩, fun h4 => ?_⟩
  · rw [checkF, if_neg hl, if_pos (by simp at h4; simp [h4])]; rfl
  have h4 : ¬ f.Nodes.length = 0 := by simp at h4; simp [h4]
  refine ⟨_, c42 _ _ _, fun h5 => ⟨?_, trivial⟩, fun h5 => ⟨_, c42 _ _ _, fun h6 => ⟨?_, trivial⟩, fun h6 => ⟨_, c43 _ _ _, fun h7 => ⟨?_, trivial⟩, fun h7 => ⟨_, c43 _ _ _, fun h8 => ⟨?_, trivial⟩, fun h8 => ?_⟩⟩⟩⟩
  · rw [checkF, if_neg hl, if_neg h4, if_pos (by simp_all)]; rfl
  · rw [checkF, if_neg hl, if_neg h4, if_pos (by simp_all)]; rfl
  · rw [checkF, if_neg hl, if_neg h4, if_pos (by simp_all)]; rfl
  · rw [checkF, if_neg hl, if_neg h4, if_pos (by simp_all)]; rfl
  have h9 : ¬ (!(wiB f.Volts 1 1000000 && wiB f.Source 1 1000000000 && inB f.Drop 0 1000000 && inB f.Limit 1 100000000)) = true := by simp_all
  obtain ⟨n1, n2, n3⟩ := hn
  refine ⟨_, _, c44 f.Cables (by omega) n1, fun g1 => ⟨?_, trivial⟩, fun g1 => ⟨_, _, c47 f.Fuses (by omega) n2, fun g2 => ⟨?_, trivial⟩, fun g2 => ⟨_, _, List.map TFeCable.av f.Cables, List.map TFeFuse.av f.Fuses, List.map TFeNode.av f.Nodes, f.Volts.Lo, f.Volts.Hi, f.Source.Lo, f.Source.Hi, f.Drop, f.Limit, c50 f.Nodes f (by omega) (by omega) (by omega) n3, fun g3 => ⟨?_, trivial⟩, fun g3 => ⟨?_, trivial⟩⟩⟩⟩ <;>
    rw [checkF, if_neg hl, if_neg h4, if_neg h9] <;> simp only [bne_iff_ne, ne_eq, bne_eq_false_iff_eq] at g1
  · simp only [ne_eq, g1, not_false_eq_true, if_true]; rfl
  · simp only [bne_iff_ne, ne_eq] at g2
    simp only [ne_eq, g1, g2, not_true_eq_false, not_false_eq_true, if_true, if_false]; rfl
  · simp only [bne_iff_ne, ne_eq, bne_eq_false_iff_eq] at g2 g3
    simp only [ne_eq, g1, g2, g3, not_true_eq_false, not_false_eq_true, if_true, if_false]; rfl
  · simp only [bne_iff_ne, ne_eq, bne_eq_false_iff_eq] at g2 g3
    simp only [ne_eq, g1, g2, g3, not_true_eq_false, if_false]; rfl)
end Go.Proofs.Ytbdbnpnichkcjaa

/- Contracts: the square root. -/
import Derived.Test.YtbdbnpnichkcjaaS
namespace Go.Proofs.Ytbdbnpnichkcjaa
open Go.RowKit
def R111 (n : Int) (S : SpecF) (Fr : FuncId → List AV → Nat → List AV → Prop) (Sq : FuncId → List AV → List (List AV) → List (List AV) → Prop) (Q : AV → List (List AV) → Prop) : Prop :=
  ∃ (I0 : Nat → List AV → Prop), (∃ m2, I0 m2 [AV.int IntKind.i64 (0 : Int), AV.int IntKind.i64 (1073741824 : Int)]) ∧ ∀ (m2 : Nat) (n3 n4 : Int), I0 m2 [AV.int IntKind.i64 n3, AV.int IntKind.i64 n4] → (decide (n4 > (0 : Int)) = true → (decide (IntKind.i64.wrap (IntKind.i64.wrap (n3 + n4) * IntKind.i64.wrap (n3 + n4)) < n) = true → ∃ k10, k10 < m2 ∧ I0 k10 [AV.int IntKind.i64 (IntKind.i64.wrap (n3 + n4)), AV.int IntKind.i64 (IntKind.i64.wrap (n4.tdiv (2 : Int)))]) ∧ (decide (IntKind.i64.wrap (IntKind.i64.wrap (n3 + n4) * IntKind.i64.wrap (n3 + n4)) < n) = false → ∃ k10, k10 < m2 ∧ I0 k10 [AV.int IntKind.i64 n3, AV.int IntKind.i64 (IntKind.i64.wrap (n4.tdiv (2 : Int)))])) ∧ (decide (n4 > (0 : Int)) = false → (decide (IntKind.i64.wrap (n3 * n3) < n) = true → Q (AV.int IntKind.i64 (IntKind.i64.wrap (n3 + (1 : Int)))) []) ∧ (decide (IntKind.i64.wrap (n3 * n3) < n) = false → Q (AV.int IntKind.i64 n3) []))
theorem r111 (n : Int) (S : SpecF) (Fr : FuncId → List AV → Nat → List AV → Prop) (Sq : FuncId → List AV → List (List AV) → List (List AV) → Prop) (Q : AV → List (List AV) → Prop) : awpF Try.prog (mkS Try.prog S Fr Sq ⟨[], [], [], [], []⟩ 0) 0 ⟨[0, 2, 3, 4, 6, 17, 25], [⟨3, [(3, .int .i64 0), (4, .int .i64 0)], [], [], [], []⟩], [], []⟩ Try.f111 [.int .i64 n] [] Q = R111 n S Fr Sq Q := by kernel_rfl
theorem s111 (n : Int) (v : AV) (O : List (List AV)) (h : R111 n (SpecOf Try.prog) (FreshOf Try.prog) (SeqOf Try.prog) (fun r O' => r = v ∧ O' = O)) : SpecOf Try.prog 111 [.int .i64 n] [] v O :=
  spec_by (boxes := []) mixed (by exact trivial) Try.func111 Try.call111 rfl rfl rfl (Nat.le_of_ble_eq_true rfl) (r111 n (SpecOf Try.prog) (FreshOf Try.prog) (SeqOf Try.prog) _) h
theorem c111 (n : Int) : Sp 111 [.int .i64 n] [] (.int .i64 (rootS n)) [] := s111 n _ _ (by
  unfold R111
  refine ⟨fun m vs => ∃ (k : Nat) (r : Int), k = m ∧ vs = [.int .i64 r, .int .i64 (if k = 0 then 0 else 2 ^ (k - 1))] ∧ k ≤ 31 ∧ 0 ≤ r ∧ r + 2 ^ k ≤ 2147483648 ∧ rootK n k r = rootK n 31 0, ⟨_, 31, 0, rfl, by simp, by omega, by omega, by simp, rfl⟩, ?_⟩
  rintro m r bit ⟨k, r', rfl, hv, hk, hr, hb, he⟩
  cases hv
  refine ⟨fun h => ?_, fun h => ?_⟩
  · obtain ⟨k, rfl⟩ : ∃ j, k = j + 1 := ⟨k - 1, by
      by_cases h0 : k = 0
      · subst h0; simp at h
      · omega⟩
    have hpk : (2 : Int) ^ (k + 1) = 2 ^ k + 2 ^ k := by rw [Int.pow_succ]; omega
    have hp : (0 : Int) < 2 ^ k := Int.pow_pos (by decide)
    simp only [Nat.add_one_ne_zero, if_false, Nat.add_sub_cancel]
    rw [hpk] at hb
    have e1 : IntKind.i64.wrap (r + 2 ^ k) = r + 2 ^ k := i64 (by omega)
    have hsq : (r + 2 ^ k) * (r + 2 ^ k) ≤ 2147483648 * 2147483648 := Int.mul_le_mul (by omega) (by omega) (by omega) (by omega)
    have hsq0 : 0 ≤ (r + 2 ^ k) * (r + 2 ^ k) := Int.mul_nonneg (by omega) (by omega)
    have e2 : IntKind.i64.wrap ((r + 2 ^ k) * (r + 2 ^ k)) = (r + 2 ^ k) * (r + 2 ^ k) := i64 (by omega)
    have e3 : IntKind.i64.wrap ((2 ^ k : Int).tdiv 2) = if k = 0 then 0 else 2 ^ (k - 1) := by
      rw [Int.tdiv_eq_ediv_of_nonneg (by omega)]
      by_cases h0 : k = 0
      · subst h0; simp; exact i64 (by omega)
      · obtain ⟨j, rfl⟩ : ∃ j, k = j + 1 := ⟨k - 1, by omega⟩
        have : (2 : Int) ^ (j + 1) = 2 ^ j + 2 ^ j := by rw [Int.pow_succ]; omega
        rw [if_neg (by omega), Nat.add_sub_cancel, this]
        rw [show ((2 : Int) ^ j + 2 ^ j) / 2 = 2 ^ j by omega]
        exact i64 (by omega)
    rw [e1, e2, e3]
    refine ⟨fun h1 => ⟨k, by omega, k, r + 2 ^ k, rfl, rfl, by omega, by omega, by omega, ?_⟩, fun h1 => ⟨k, by omega, k, r, rfl, rfl, by omega, by omega, by omega, ?_⟩⟩
    · rw [← he, rootK, if_pos (by simpa using h1)]
    · rw [← he, rootK, if_neg (by simpa using h1)]
  · have h0 : k = 0 := by
      by_cases h0 : k = 0
      · exact h0
      · exfalso
        have hp : (0 : Int) < 2 ^ (k - 1) := Int.pow_pos (by decide)
        rw [if_neg h0] at h; simp at h; omega
    subst h0
    have he : r = rootK n 31 0 := he
    have hS : rootS n = if r * r < n then r + 1 else r := by rw [rootS, ← he]
    rw [hS]
    clear he hS
    simp at hb
    have hsq : r * r ≤ 2147483648 * 2147483648 := Int.mul_le_mul (by omega) (by omega) (by omega) (by omega)
    have hsq0 : 0 ≤ r * r := Int.mul_nonneg (by omega) (by omega)
    rw [i64 (show -9223372036854775808 ≤ r * r ∧ r * r ≤ 9223372036854775807 by omega), i64 (show -9223372036854775808 ≤ r + 1 ∧ r + 1 ≤ 9223372036854775807 by omega)]
    refine ⟨fun h1 => ⟨?_, rfl⟩, fun h1 => ⟨?_, rfl⟩⟩
    · rw [if_pos (by simpa using h1)]
    · rw [if_neg (by simpa using h1)])
theorem sqb {u : Int} (h : -40000000 ≤ u ∧ u ≤ 40000000) : 0 ≤ u * u ∧ u * u ≤ 1600000000000000 := by
  have h0 : 0 ≤ u * u := by
    rcases Int.le_total 0 u with h' | h'
    · exact Int.mul_nonneg h' h'
    · exact Int.mul_nonneg_of_nonpos_of_nonpos h' h'
  refine ⟨h0, ?_⟩
  rcases Int.le_total 0 u with h' | h'
  · have := Int.mul_le_mul h.2 h.2 h' (by decide); omega
  · have : (-u) * (-u) ≤ 40000000 * 40000000 := Int.mul_le_mul (by omega) (by omega) (by omega) (by decide)
    rw [Int.neg_mul_neg] at this; omega
theorem halfW {a b c : Int} (ha : 0 ≤ a ∧ a ≤ 40000000) (hb : 0 ≤ b ∧ b ≤ 40000000) (hc : 0 ≤ c ∧ c ≤ 40000000) :
    IntKind.i64.wrap ((IntKind.i64.wrap (IntKind.i64.wrap (IntKind.i64.wrap (IntKind.i64.wrap (a - b) * IntKind.i64.wrap (a - b)) + IntKind.i64.wrap (IntKind.i64.wrap (b - c) * IntKind.i64.wrap (b - c))) + IntKind.i64.wrap (IntKind.i64.wrap (c - a) * IntKind.i64.wrap (c - a)))).tdiv 2) = halfD a b c := by
  have h1 := sqb (u := a - b) (by omega)
  have h2 := sqb (u := b - c) (by omega)
  have h3 := sqb (u := c - a) (by omega)
  rw [i64 (n := a - b) (by omega), i64 (n := b - c) (by omega), i64 (n := c - a) (by omega), i64 (n := (a - b) * (a - b)) (by omega), i64 (n := (b - c) * (b - c)) (by omega), i64 (n := (c - a) * (c - a)) (by omega), i64 (n := (a - b) * (a - b) + (b - c) * (b - c)) (by omega), i64 (n := (a - b) * (a - b) + (b - c) * (b - c) + (c - a) * (c - a)) (by omega)]
  rw [Int.tdiv_eq_ediv_of_nonneg (by omega)]
  exact i64 (by omega)
theorem ifmax {a b : Int} : (if a > b then a else b) = max b a := by
  rw [Int.max_def]; split <;> split <;> omega
def EOK (x : TEncl) : Prop := 0 ≤ x.Lo ∧ x.Lo ≤ x.Hi ∧ x.Hi ≤ 40000000
def R75 (x0 : TEncl) (x1 : TEncl) (x2 : TEncl) (S : SpecF) (Fr : FuncId → List AV → Nat → List AV → Prop) (Sq : FuncId → List AV → List (List AV) → List (List AV) → Prop) (Q : AV → List (List AV) → Prop) : Prop :=
  ∃ n0 n1, S (110 : Nat) [AV.int IntKind.i64 (0 : Int), AV.ref (0 : Nat) (0 : Nat)] [[AV.int IntKind.i64 x0.Lo, AV.int IntKind.i64 x0.Hi, AV.int IntKind.i64 x1.Lo, AV.int IntKind.i64 x1.Hi, AV.int IntKind.i64 x2.Lo, AV.int IntKind.i64 x2.Hi]] (AV.agg [AV.int IntKind.i64 n0, AV.int IntKind.i64 n1]) [[AV.int IntKind.i64 x0.Lo, AV.int IntKind.i64 x0.Hi, AV.int IntKind.i64 x1.Lo, AV.int IntKind.i64 x1.Hi, AV.int IntKind.i64 x2.Lo, AV.int IntKind.i64 x2.Hi]] ∧ ∃ (I3 : Nat → List AV → Prop), (∃ m5, I3 m5 [AV.int IntKind.i64 (0 : Int), AV.int IntKind.i64 (0 : Int), AV.agg [AV.int IntKind.i64 x0.Lo, AV.int IntKind.i64 x0.Hi, AV.int IntKind.i64 x1.Lo, AV.int IntKind.i64 x1.Hi, AV.int IntKind.i64 x2.Lo, AV.int IntKind.i64 x2.Hi]]) ∧ ∀ (m5 : Nat) (n6 n7 n8 n9 n10 n11 n12 n13 : Int), I3 m5 [AV.int IntKind.i64 n6, AV.int IntKind.i64 n7, AV.agg [AV.int IntKind.i64 n8, AV.int IntKind.i64 n9, AV.int IntKind.i64 n10, AV.int IntKind.i64 n11, AV.int IntKind.i64 n12, AV.int IntKind.i64 n13]] → (decide (n7 < (2 : Int)) = true → ∃ (J17 : List AV → Prop), (((0 : Int) ≤ n7 ∧ n7 < (2 : Int)) ∧ (n7 = (1 : Int) → [AV.int IntKind.i64 n8, AV.int IntKind.i64 n9, AV.int IntKind.i64 n10, AV.int IntKind.i64 n11, AV.int IntKind.i64 n12, AV.int IntKind.i64 n13] = [AV.int IntKind.i64 n8, AV.int IntKind.i64 n9, AV.int IntKind.i64 n10, AV.int IntKind.i64 n11, AV.int IntKind.i64 n12, AV.int IntKind.i64 n13] ∧ J17 [AV.int IntKind.i64 n1]) ∧ (n7 = (0 : Int) → [AV.int IntKind.i64 n8, AV.int IntKind.i64 n9, AV.int IntKind.i64 n10, AV.int IntKind.i64 n11, AV.int IntKind.i64 n12, AV.int IntKind.i64 n13] = [AV.int IntKind.i64 n8, AV.int IntKind.i64 n9, AV.int IntKind.i64 n10, AV.int IntKind.i64 n11, AV.int IntKind.i64 n12, AV.int IntKind.i64 n13] ∧ J17 [AV.int IntKind.i64 n0]) ∧ True) ∧ ∀ (n19 : Int), J17 [AV.int IntKind.i64 n19] → ∃ n21 n22, S (110 : Nat) [AV.int IntKind.i64 (1 : Int), AV.ref (0 : Nat) (0 : Nat)] [[AV.int IntKind.i64 n8, AV.int IntKind.i64 n9, AV.int IntKind.i64 n10, AV.int IntKind.i64 n11, AV.int IntKind.i64 n12, AV.int IntKind.i64 n13]] (AV.agg [AV.int IntKind.i64 n21, AV.int IntKind.i64 n22]) [[AV.int IntKind.i64 n8, AV.int IntKind.i64 n9, AV.int IntKind.i64 n10, AV.int IntKind.i64 n11, AV.int IntKind.i64 n12, AV.int IntKind.i64 n13]] ∧ ∃ (I24 : Nat → List AV → Prop), (∃ m26, I24 m26 [AV.int IntKind.i64 n6, AV.int IntKind.i64 (0 : Int), AV.agg [AV.int IntKind.i64 n8, AV.int IntKind.i64 n9, AV.int IntKind.i64 n10, AV.int IntKind.i64 n11, AV.int IntKind.i64 n12, AV.int IntKind.i64 n13]]) ∧ ∀ (m26 : Nat) (n27 n28 n29 n30 n31 n32 n33 n34 : Int), I24 m26 [AV.int IntKind.i64 n27, AV.int IntKind.i64 n28, AV.agg [AV.int IntKind.i64 n29, AV.int IntKind.i64 n30, AV.int IntKind.i64 n31, AV.int IntKind.i64 n32, AV.int IntKind.i64 n33, AV.int IntKind.i64 n34]] → (decide (n28 < (2 : Int)) = true → ∃ (J38 : List AV → Prop), (((0 : Int) ≤ n28 ∧ n28 < (2 : Int)) ∧ (n28 = (1 : Int) → [AV.int IntKind.i64 n29, AV.int IntKind.i64 n30, AV.int IntKind.i64 n31, AV.int IntKind.i64 n32, AV.int IntKind.i64 n33, AV.int IntKind.i64 n34] = [AV.int IntKind.i64 n29, AV.int IntKind.i64 n30, AV.int IntKind.i64 n31, AV.int IntKind.i64 n32, AV.int IntKind.i64 n33, AV.int IntKind.i64 n34] ∧ J38 [AV.int IntKind.i64 n22]) ∧ (n28 = (0 : Int) → [AV.int IntKind.i64 n29, AV.int IntKind.i64 n30, AV.int IntKind.i64 n31, AV.int IntKind.i64 n32, AV.int IntKind.i64 n33, AV.int IntKind.i64 n34] = [AV.int IntKind.i64 n29, AV.int IntKind.i64 n30, AV.int IntKind.i64 n31, AV.int IntKind.i64 n32, AV.int IntKind.i64 n33, AV.int IntKind.i64 n34] ∧ J38 [AV.int IntKind.i64 n21]) ∧ True) ∧ ∀ (n40 : Int), J38 [AV.int IntKind.i64 n40] → ∃ n42 n43, S (110 : Nat) [AV.int IntKind.i64 (2 : Int), AV.ref (0 : Nat) (0 : Nat)] [[AV.int IntKind.i64 n29, AV.int IntKind.i64 n30, AV.int IntKind.i64 n31, AV.int IntKind.i64 n32, AV.int IntKind.i64 n33, AV.int IntKind.i64 n34]] (AV.agg [AV.int IntKind.i64 n42, AV.int IntKind.i64 n43]) [[AV.int IntKind.i64 n29, AV.int IntKind.i64 n30, AV.int IntKind.i64 n31, AV.int IntKind.i64 n32, AV.int IntKind.i64 n33, AV.int IntKind.i64 n34]] ∧ ∃ (I45 : Nat → List AV → Prop), (∃ m47, I45 m47 [AV.int IntKind.i64 n27, AV.int IntKind.i64 (0 : Int)]) ∧ ∀ (m47 : Nat) (n48 n49 : Int), I45 m47 [AV.int IntKind.i64 n48, AV.int IntKind.i64 n49] → (decide (n49 < (2 : Int)) = true → ∃ (J53 : List AV → Prop), (((0 : Int) ≤ n49 ∧ n49 < (2 : Int)) ∧ (n49 = (1 : Int) → [AV.int IntKind.i64 n29, AV.int IntKind.i64 n30, AV.int IntKind.i64 n31, AV.int IntKind.i64 n32, AV.int IntKind.i64 n33, AV.int IntKind.i64 n34] = [AV.int IntKind.i64 n29, AV.int IntKind.i64 n30, AV.int IntKind.i64 n31, AV.int IntKind.i64 n32, AV.int IntKind.i64 n33, AV.int IntKind.i64 n34] ∧ J53 [AV.int IntKind.i64 n43]) ∧ (n49 = (0 : Int) → [AV.int IntKind.i64 n29, AV.int IntKind.i64 n30, AV.int IntKind.i64 n31, AV.int IntKind.i64 n32, AV.int IntKind.i64 n33, AV.int IntKind.i64 n34] = [AV.int IntKind.i64 n29, AV.int IntKind.i64 n30, AV.int IntKind.i64 n31, AV.int IntKind.i64 n32, AV.int IntKind.i64 n33, AV.int IntKind.i64 n34] ∧ J53 [AV.int IntKind.i64 n42]) ∧ True) ∧ ∀ (n55 : Int), J53 [AV.int IntKind.i64 n55] → [AV.int IntKind.i64 n29, AV.int IntKind.i64 n30, AV.int IntKind.i64 n31, AV.int IntKind.i64 n32, AV.int IntKind.i64 n33, AV.int IntKind.i64 n34] = [AV.int IntKind.i64 n29, AV.int IntKind.i64 n30, AV.int IntKind.i64 n31, AV.int IntKind.i64 n32, AV.int IntKind.i64 n33, AV.int IntKind.i64 n34] ∧ ∃ k58, k58 < m47 ∧ I45 k58 [AV.int IntKind.i64 (if IntKind.i64.wrap ((IntKind.i64.wrap (IntKind.i64.wrap (IntKind.i64.wrap (IntKind.i64.wrap (n19 - n40) * IntKind.i64.wrap (n19 - n40)) + IntKind.i64.wrap (IntKind.i64.wrap (n40 - n55) * IntKind.i64.wrap (n40 - n55))) + IntKind.i64.wrap (IntKind.i64.wrap (n55 - n19) * IntKind.i64.wrap (n55 - n19)))).tdiv (2 : Int)) > n48 then IntKind.i64.wrap ((IntKind.i64.wrap (IntKind.i64.wrap (IntKind.i64.wrap (IntKind.i64.wrap (n19 - n40) * IntKind.i64.wrap (n19 - n40)) + IntKind.i64.wrap (IntKind.i64.wrap (n40 - n55) * IntKind.i64.wrap (n40 - n55))) + IntKind.i64.wrap (IntKind.i64.wrap (n55 - n19) * IntKind.i64.wrap (n55 - n19)))).tdiv (2 : Int)) else n48), AV.int IntKind.i64 (IntKind.i64.wrap (n49 + (1 : Int)))]) ∧ (decide (n49 < (2 : Int)) = false → ∃ k53, k53 < m26 ∧ I24 k53 [AV.int IntKind.i64 n48, AV.int IntKind.i64 (IntKind.i64.wrap (n28 + (1 : Int))), AV.agg [AV.int IntKind.i64 n29, AV.int IntKind.i64 n30, AV.int IntKind.i64 n31, AV.int IntKind.i64 n32, AV.int IntKind.i64 n33, AV.int IntKind.i64 n34]])) ∧ (decide (n28 < (2 : Int)) = false → ∃ k38, k38 < m5 ∧ I3 k38 [AV.int IntKind.i64 n27, AV.int IntKind.i64 (IntKind.i64.wrap (n7 + (1 : Int))), AV.agg [AV.int IntKind.i64 n29, AV.int IntKind.i64 n30, AV.int IntKind.i64 n31, AV.int IntKind.i64 n32, AV.int IntKind.i64 n33, AV.int IntKind.i64 n34]])) ∧ (decide (n7 < (2 : Int)) = false → ∃ n17, S (111 : Nat) [AV.int IntKind.i64 n6] [] (AV.int IntKind.i64 n17) [] ∧ Q (AV.int IntKind.i64 n17) [])
theorem r75 (x0 : TEncl) (x1 : TEncl) (x2 : TEncl) (S : SpecF) (Fr : FuncId → List AV → Nat → List AV → Prop) (Sq : FuncId → List AV → List (List AV) → List (List AV) → Prop) (Q : AV → List (List AV) → Prop) : awpF Try.prog (mkS Try.prog S Fr Sq ⟨[], [], [110], [], []⟩ 0) 0 ⟨[0, 1, 2, 3, 4, 6, 8, 10, 13, 14, 15, 18, 19, 20, 23, 24, 25], [⟨4, [(4, .int .i64 0), (14, .int .i64 0)], [], [(1, .agg [.int .i64 0, .int .i64 0, .int .i64 0, .int .i64 0, .int .i64 0, .int .i64 0])], [], []⟩, ⟨7, [(4, .int .i64 0), (19, .int .i64 0)], [], [(1, .agg [.int .i64 0, .int .i64 0, .int .i64 0, .int .i64 0, .int .i64 0, .int .i64 0])], [], []⟩, ⟨10, [(4, .int .i64 0), (24, .int .i64 0)], [], [], [], []⟩], [⟨6, [(6, .int .i64 0)], [], [], [], []⟩, ⟨9, [(8, .int .i64 0)], [], [], [], []⟩, ⟨12, [(10, .int .i64 0)], [], [], [], []⟩], []⟩ Try.f75 [.agg [.int .i64 x0.Lo, .int .i64 x0.Hi, .int .i64 x1.Lo, .int .i64 x1.Hi, .int .i64 x2.Lo, .int .i64 x2.Hi]] [] Q = R75 x0 x1 x2 S Fr Sq Q := by kernel_rfl
theorem s75 (x0 : TEncl) (x1 : TEncl) (x2 : TEncl) (v : AV) (O : List (List AV)) (h : R75 x0 x1 x2 (SpecOf Try.prog) (FreshOf Try.prog) (SeqOf Try.prog) (fun r O' => r = v ∧ O' = O)) : SpecOf Try.prog 75 [.agg [.int .i64 x0.Lo, .int .i64 x0.Hi, .int .i64 x1.Lo, .int .i64 x1.Hi, .int .i64 x2.Lo, .int .i64 x2.Hi]] [] v O :=
  spec_by (boxes := []) mixed (by exact trivial) Try.func75 Try.call75 rfl rfl rfl (Nat.le_of_ble_eq_true rfl) (r75 x0 x1 x2 (SpecOf Try.prog) (FreshOf Try.prog) (SeqOf Try.prog) _) h
theorem c75 (x y z : TEncl) (hx : EOK x) (hy : EOK y) (hz : EOK z) : Sp 75 [.agg (six x y z)] [] (.int .i64 (neutS x y z)) [] := s75 x y z _ _ (by
  unfold EOK at hx hy hz
  unfold R75
  refine ⟨_, _, c110 0 (.inl rfl) x y z, ?_⟩
  refine ⟨fun m vs => ∃ k : Nat, k ≤ 2 ∧ m = 2 - k ∧ vs = [.int .i64 (if k = 0 then 0 else if k = 1 then most2 x.Lo 0 y z else mostS x y z), .int .i64 k, .agg (six x y z)], ⟨_, 0, by omega, rfl, rfl⟩, ?_⟩
  rintro m n1 n2 n3 n4 n5 n6 n7 n8 ⟨k, hk, rfl, hv⟩
  cases hv
  refine ⟨fun h => ?_, fun h => ?_⟩
  · have h : k < 2 := by simp at h; omega
    refine ⟨fun vs => vs = [.int .i64 (if k = 0 then x.Lo else x.Hi)], ⟨⟨by omega, by omega⟩, fun h2 => ?_, fun h2 => ?_, trivial⟩, ?_⟩
    · rw [if_neg (by omega)]; first | exact ⟨rfl, rfl⟩ | rfl
    · rw [if_pos (by omega)]; first | exact ⟨rfl, rfl⟩ | rfl
    rintro a ha
    cases ha
    generalize hM : (if k = 0 then (0 : Int) else if k = 1 then most2 x.Lo 0 y z else mostS x y z) = M
    generalize hA : (if k = 0 then x.Lo else x.Hi) = a
    have ha : 0 ≤ a ∧ a ≤ 40000000 := by subst hA; split <;> omega
    refine ⟨_, _, c110 1 (.inr (.inl rfl)) x y z, ?_⟩
    refine ⟨fun m vs => ∃ j : Nat, j ≤ 2 ∧ m = 2 - j ∧ vs = [.int .i64 (if j = 0 then M else if j = 1 then most3 a y.Lo M z else most2 a M y z), .int .i64 j, .agg (six x y z)], ⟨_, 0, by omega, rfl, rfl⟩, ?_⟩
    rintro m n1 n2 n3 n4 n5 n6 n7 n8 ⟨j, hj, rfl, hv⟩
    cases hv
    refine ⟨fun h' => ?_, fun h' => ?_⟩
    · have h' : j < 2 := by simp at h'; omega
      refine ⟨fun vs => vs = [.int .i64 (if j = 0 then y.Lo else y.Hi)], ⟨⟨by omega, by omega⟩, fun h2 => ?_, fun h2 => ?_, trivial⟩, ?_⟩
      · rw [if_neg (by omega)]; first | exact ⟨rfl, rfl⟩ | rfl
      · rw [if_pos (by omega)]; first | exact ⟨rfl, rfl⟩ | rfl
      rintro b hb
      cases hb
      generalize hM2 : (if j = 0 then M else if j = 1 then most3 a y.Lo M z else most2 a M y z) = M2
      generalize hB : (if j = 0 then y.Lo else y.Hi) = b
      have hb : 0 ≤ b ∧ b ≤ 40000000 := by subst hB; split <;> omega
      refine ⟨_, _, c110 2 (.inr (.inr rfl)) x y z, ?_⟩
      refine ⟨fun m vs => ∃ l : Nat, l ≤ 2 ∧ m = 2 - l ∧ vs = [.int .i64 (if l = 0 then M2 else if l = 1 then max M2 (halfD a b z.Lo) else most3 a b M2 z), .int .i64 l], ⟨_, 0, by omega, rfl, rfl⟩, ?_⟩
      rintro m n1 n2 ⟨l, hl, rfl, hv⟩
      cases hv
      refine ⟨fun h'' => ?_, fun h'' => ?_⟩
      · have h'' : l < 2 := by simp at h''; omega
        refine ⟨fun vs => vs = [.int .i64 (if l = 0 then z.Lo else z.Hi)], ⟨⟨by omega, by omega⟩, fun h2 => ?_, fun h2 => ?_, trivial⟩, ?_⟩
        · rw [if_neg (by omega)]; first | exact ⟨rfl, rfl⟩ | rfl
        · rw [if_pos (by omega)]; first | exact ⟨rfl, rfl⟩ | rfl
        rintro c hc
        cases hc
        have hc : 0 ≤ (if l = 0 then z.Lo else z.Hi) ∧ (if l = 0 then z.Lo else z.Hi) ≤ 40000000 := by split <;> omega
        refine ⟨rfl, _, (by omega : 2 - (l + 1) < 2 - l), l + 1, by omega, rfl, ?_⟩
        rw [halfW ha hb hc, ifmax, wrapN (by omega)]
        obtain rfl | rfl : l = 0 ∨ l = 1 := by omega
        · rfl
        · rfl
      · have : l = 2 := by simp at h''; omega
        subst this
        refine ⟨_, (by omega : 2 - (j + 1) < 2 - j), j + 1, by omega, rfl, ?_⟩
        rw [wrapN (by omega), ← hM2, ← hB]
        obtain rfl | rfl : j = 0 ∨ j = 1 := by omega
        · rfl
        · rfl
    · have : j = 2 := by simp at h'; omega
      subst this
      refine ⟨_, (by omega : 2 - (k + 1) < 2 - k), k + 1, by omega, rfl, ?_⟩
      rw [wrapN (by omega), ← hM, ← hA]
      obtain rfl | rfl : k = 0 ∨ k = 1 := by omega
      · rfl
      · rfl
  · have : k = 2 := by simp at h; omega
    subst this
    exact ⟨_, c111 _, rfl, rfl⟩)
end Go.Proofs.Ytbdbnpnichkcjaa

/- Contracts: the law's apart, taken, told and core. -/
import Derived.Test.YtdaanpgdjjodcaaX
namespace Go.Proofs.Ytdaanpgdjjodcaa
open Go.RowKit
def R22 (l : List TNdMessage) (S : SpecF) (Fr : FuncId → List AV → Nat → List AV → Prop) (Q : AV → List (List AV) → Prop) : Prop :=
  ∃ (I0 : Nat → List AV → Prop), (∃ m2, I0 m2 [AV.int IntKind.i64 (0 : Int)]) ∧ ∀ (m2 : Nat) (n3 : Int), I0 m2 [AV.int IntKind.i64 n3] → (decide (n3 < (↑(List.map TNdMessage.av l).length : Int)) = true → ∃ n7 n8 n9 n10 es11 n12 n13 n14 n15, ((0 : Int) ≤ n3 ∧ (9 : Nat) = (9 : Nat) ∧ (List.map TNdMessage.av l)[n3.toNat]? = some (AV.agg [AV.int IntKind.i64 n7, AV.int IntKind.i64 n8, AV.int IntKind.i64 n9, AV.int IntKind.i64 n10, AV.slc (3 : Nat) es11, AV.int IntKind.i64 n12, AV.int IntKind.i64 n13, AV.int IntKind.i64 n14, AV.int IntKind.i64 n15])) ∧ ((n7 == (1 : Int)) = true → Q (AV.bool false) []) ∧ ((n7 == (1 : Int)) = false → ∃ (I19 : Nat → List AV → Prop), (∃ m21, I19 m21 [AV.int IntKind.i64 (0 : Int)]) ∧ ∀ (m21 : Nat) (n22 : Int), I19 m21 [AV.int IntKind.i64 n22] → (decide (n22 < n3) = true → ∃ n26 n27 n28 n29 es30 n31 n32 n33 n34, ((0 : Int) ≤ n22 ∧ (9 : Nat) = (9 : Nat) ∧ (List.map TNdMessage.av l)[n22.toNat]? = some (AV.agg [AV.int IntKind.i64 n26, AV.int IntKind.i64 n27, AV.int IntKind.i64 n28, AV.int IntKind.i64 n29, AV.slc (3 : Nat) es30, AV.int IntKind.i64 n31, AV.int IntKind.i64 n32, AV.int IntKind.i64 n33, AV.int IntKind.i64 n34])) ∧ ∃ n36 n37 n38 n39 es40 n41 n42 n43 n44, ((0 : Int) ≤ n3 ∧ (9 : Nat) = (9 : Nat) ∧ (List.map TNdMessage.av l)[n3.toNat]? = some (AV.agg [AV.int IntKind.i64 n36, AV.int IntKind.i64 n37, AV.int IntKind.i64 n38, AV.int IntKind.i64 n39, AV.slc (3 : Nat) es40, AV.int IntKind.i64 n41, AV.int IntKind.i64 n42, AV.int IntKind.i64 n43, AV.int IntKind.i64 n44])) ∧ ((n26 == n36) = true → ∃ n48 n49 n50 n51 es52 n53 n54 n55 n56, ((0 : Int) ≤ n22 ∧ (9 : Nat) = (9 : Nat) ∧ (List.map TNdMessage.av l)[n22.toNat]? = some (AV.agg [AV.int IntKind.i64 n48, AV.int IntKind.i64 n49, AV.int IntKind.i64 n50, AV.int IntKind.i64 n51, AV.slc (3 : Nat) es52, AV.int IntKind.i64 n53, AV.int IntKind.i64 n54, AV.int IntKind.i64 n55, AV.int IntKind.i64 n56])) ∧ ∃ n58 n59 n60 n61 es62 n63 n64 n65 n66, ((0 : Int) ≤ n3 ∧ (9 : Nat) = (9 : Nat) ∧ (List.map TNdMessage.av l)[n3.toNat]? = some (AV.agg [AV.int IntKind.i64 n58, AV.int IntKind.i64 n59, AV.int IntKind.i64 n60, AV.int IntKind.i64 n61, AV.slc (3 : Nat) es62, AV.int IntKind.i64 n63, AV.int IntKind.i64 n64, AV.int IntKind.i64 n65, AV.int IntKind.i64 n66])) ∧ ((n49 == n59) = true → Q (AV.bool false) []) ∧ ((n49 == n59) = false → ∃ k70, k70 < m21 ∧ I19 k70 [AV.int IntKind.i64 (IntKind.i64.wrap (n22 + (1 : Int)))])) ∧ ((n26 == n36) = false → ∃ k48, k48 < m21 ∧ I19 k48 [AV.int IntKind.i64 (IntKind.i64.wrap (n22 + (1 : Int)))])) ∧ (decide (n22 < n3) = false → ∃ k26, k26 < m2 ∧ I0 k26 [AV.int IntKind.i64 (IntKind.i64.wrap (n3 + (1 : Int)))]))) ∧ (decide (n3 < (↑(List.map TNdMessage.av l).length : Int)) = false → Q (AV.bool true) [])
theorem r22 (l : List TNdMessage) (S : SpecF) (Fr : FuncId → List AV → Nat → List AV → Prop) (Q : AV → List (List AV) → Prop) : awpF Try.prog ⟨S, Fr, ⟨[], [], []⟩⟩ 0 ⟨[0, 2, 3, 4, 8, 16, 19, 45], [⟨2, [(3, .int .i64 0)], [], []⟩, ⟨7, [(4, .int .i64 0)], [], []⟩], [], []⟩ Try.f22 [.slc 3 (List.map TNdMessage.av l)] [] Q = R22 l S Fr Q := by kernel_rfl
theorem s22 (l : List TNdMessage) (v : AV) (O : List (List AV)) (h : R22 l (SpecOf Try.prog) (FreshOf Try.prog) (fun r O' => r = v ∧ O' = O)) : SpecOf Try.prog 22 [.slc 3 (List.map TNdMessage.av l)] [] v O :=
  spec_by (boxes := []) mixed Try.func22 Try.call22 rfl rfl rfl (Nat.le_of_ble_eq_true rfl) (r22 l (SpecOf Try.prog) (FreshOf Try.prog) _) h
def ApTo (l : List TNdMessage) (i : Nat) : Prop := ∀ (j : Nat) (x : TNdMessage), j < i → l[j]? = some x → x.Kind ≠ 1 ∧ ∀ (k : Nat) (y : TNdMessage), k < j → l[k]? = some y → ¬ (y.Kind = x.Kind ∧ y.Number = x.Number)
def Ap (l : List TNdMessage) : Prop := ApTo l l.length
open Classical in
noncomputable def apB (l : List TNdMessage) : Bool := decide (Ap l)
theorem apB_iff (l : List TNdMessage) : apB l = true ↔ Ap l := by unfold apB; classical exact decide_eq_true_iff
theorem c22 (l : List TNdMessage) (hl : l.length ≤ 1000000) : Sp 22 [.slc 3 (List.map TNdMessage.av l)] [] (.bool (apB l)) [] := s22 l _ _ (by
  refine ⟨fun m vs => ∃ i : Nat, i ≤ l.length ∧ m = l.length - i ∧ vs = [.int .i64 i] ∧ ApTo l i, ⟨_, 0, by omega, rfl, rfl, fun j x h => by omega⟩, ?_⟩
  rintro m n ⟨i, hi, rfl, hvs, hap⟩
  cases hvs
  refine ⟨fun h1 => ?_, fun h1 => ?_⟩
  · have h1 : i < l.length := by simpa using h1
    obtain ⟨x, hx, hx'⟩ := map_get (f := TNdMessage.av) (l := l) (n := (i : Int)) (by omega) (by omega)
    have hx : l[i]? = some x := by simpa using hx
    have hno : (x.Kind = 1 ∨ ∃ (k : Nat) (y : TNdMessage), k < i ∧ l[k]? = some y ∧ (y.Kind = x.Kind ∧ y.Number = x.Number)) → apB l = false := by
      intro h
      rw [Bool.eq_false_iff]
      intro ha
      obtain ⟨a1, a2⟩ := (apB_iff l).1 ha i x h1 hx
      rcases h with h | ⟨k, y, hk, hy, h⟩
      · exact a1 h
      · exact a2 k y hk hy h
    refine ⟨_, _, _, _, _, _, _, _, _, ⟨by omega, rfl, hx'⟩, fun h2 => ⟨?_, rfl⟩, fun h2 => ?_⟩
    · rw [hno (.inl (by simpa using h2))]
    have h2 : x.Kind ≠ 1 := by simpa using h2
    refine ⟨fun m vs => ∃ k : Nat, k ≤ i ∧ m = i - k ∧ vs = [.int .i64 k] ∧ ∀ (a : Nat) (y : TNdMessage), a < k → l[a]? = some y → ¬ (y.Kind = x.Kind ∧ y.Number = x.Number), ⟨_, 0, by omega, rfl, rfl, fun a y h => by omega⟩, ?_⟩
    rintro m n ⟨k, hk, rfl, hvs, hin⟩
    cases hvs
    refine ⟨fun h3 => ?_, fun h3 => ?_⟩
    · have h3 : k < i := by simpa using h3
      obtain ⟨y, hy, hy'⟩ := map_get (f := TNdMessage.av) (l := l) (n := (k : Int)) (by omega) (by omega)
      have hy : l[k]? = some y := by simpa using hy
      have hstep : ¬ (y.Kind = x.Kind ∧ y.Number = x.Number) → ∃ j, j < i - k ∧ ∃ k' : Nat, k' ≤ i ∧ j = i - k' ∧ ([.int .i64 (IntKind.i64.wrap ((k : Int) + 1))] : List AV) = [.int .i64 k'] ∧ ∀ (a : Nat) (y : TNdMessage), a < k' → l[a]? = some y → ¬ (y.Kind = x.Kind ∧ y.Number = x.Number) := by
        intro hc
        refine ⟨i - (k + 1), by omega, k + 1, by omega, rfl, by rw [wrap1 (m := i) (by omega) (by omega) (by omega)]; rfl, fun a z ha hz => ?_⟩
        by_cases hak : a = k
        · subst hak; rw [hy] at hz; cases hz; exact hc
        · exact hin a z (by omega) hz
      refine ⟨_, _, _, _, _, _, _, _, _, ⟨by omega, rfl, hy'⟩, _, _, _, _, _, _, _, _, _, ⟨by omega, rfl, hx'⟩, fun h4 => ⟨_, _, _, _, _, _, _, _, _, ⟨by omega, rfl, hy'⟩, _, _, _, _, _, _, _, _, _, ⟨by omega, rfl, hx'⟩, fun h5 => ⟨?_, rfl⟩, fun h5 => ?_⟩, fun h4 => ?_⟩
      · rw [hno (.inr ⟨k, y, h3, hy, by simpa using h4, by simpa using h5⟩)]
      · exact hstep fun h => absurd h.2 (by simpa using h5)
      · exact hstep fun h => absurd h.1 (by simpa using h4)
    · have h3 : i ≤ k := by simpa using h3
      have hik : k = i := by omega
      subst hik
      refine ⟨l.length - (k + 1), by omega, k + 1, by omega, rfl, by rw [wrap1 (m := l.length) (by omega) (by omega) (by omega)]; rfl, fun j z hj hz => ?_⟩
      by_cases hjk : j = k
      · subst hjk; rw [hx] at hz; cases hz; exact ⟨h2, hin⟩
      · exact hap j z (by omega) hz
  · have h1 : l.length ≤ i := by simpa using h1
    have hil : i = l.length := by omega
    subst hil
    have : apB l = true := (apB_iff l).2 hap
    rw [this]; exact ⟨rfl, rfl⟩)
theorem ap_all {l : List TNdMessage} (h : Ap l) : (∀ t ∈ l, t.Kind ≠ 1) ∧ ∀ a ∈ l, ∀ b ∈ l, a.Kind = b.Kind → a.Number = b.Number → a = b := by
  refine ⟨fun t ht => ?_, fun a ha b hb h1 h2 => ?_⟩
  · obtain ⟨i, hi⟩ := List.mem_iff_getElem?.1 ht
    exact (h i t (List.getElem?_eq_some_iff.1 hi).1 hi).1
  · obtain ⟨i, hi⟩ := List.mem_iff_getElem?.1 ha
    obtain ⟨j, hj⟩ := List.mem_iff_getElem?.1 hb
    have hil := (List.getElem?_eq_some_iff.1 hi).1
    have hjl := (List.getElem?_eq_some_iff.1 hj).1
    rcases Nat.lt_trichotomy i j with hij | hij | hij
    · exact absurd ⟨h1, h2⟩ ((h j b hjl hj).2 i a hij hi)
    · subst hij; rw [hi] at hj; cases hj; rfl
    · exact absurd ⟨h1.symm, h2.symm⟩ ((h i a hil hi).2 j b hij hj)
def R23 (c : TNdSet) (s : TNdState) (l : List TNdMessage) (S : SpecF) (Fr : FuncId → List AV → Nat → List AV → Prop) (Q : AV → List (List AV) → Prop) : Prop :=
  ∃ (I0 : Nat → List AV → Prop), (∃ m2, I0 m2 [AV.int IntKind.i64 (0 : Int), s.av]) ∧ ∀ (m2 : Nat) (n3 n4 n5 n6 n7 n8 n9 : Int) (b10 : Bool) (n11 n12 : Int) (es13 : List AV) (n14 n15 n16 n17 n18 n19 n20 : Int) (b21 b22 : Bool) (n23 n24 : Int), I0 m2 [AV.int IntKind.i64 n3, AV.agg [AV.int IntKind.i64 n4, AV.int IntKind.i64 n5, AV.int IntKind.i64 n6, AV.int IntKind.i64 n7, AV.int IntKind.i64 n8, AV.int IntKind.i64 n9, AV.bool b10, AV.int IntKind.i64 n11, AV.int IntKind.i64 n12, AV.slc (3 : Nat) es13, AV.int IntKind.i64 n14, AV.int IntKind.i64 n15, AV.int IntKind.i64 n16, AV.int IntKind.i64 n17, AV.int IntKind.i64 n18, AV.int IntKind.i64 n19, AV.int IntKind.i64 n20, AV.bool b21, AV.bool b22, AV.int IntKind.i64 n23, AV.int IntKind.i64 n24]] → (decide (n3 < (↑(List.map TNdMessage.av l).length : Int)) = true → ∃ (J28 : List AV → Prop), (∃ n30 n31 n32 n33 es34 n35 n36 n37 n38, ((0 : Int) ≤ n3 ∧ (9 : Nat) = (9 : Nat) ∧ (List.map TNdMessage.av l)[n3.toNat]? = some (AV.agg [AV.int IntKind.i64 n30, AV.int IntKind.i64 n31, AV.int IntKind.i64 n32, AV.int IntKind.i64 n33, AV.slc (3 : Nat) es34, AV.int IntKind.i64 n35, AV.int IntKind.i64 n36, AV.int IntKind.i64 n37, AV.int IntKind.i64 n38])) ∧ ∃ n40 n41 n42 n43 n44 n45 b46 n47 n48 es49 n50 n51 n52 n53 n54 n55 n56 b57 b58 n59 n60 n61, S (11 : Nat) [c.av, AV.agg [AV.int IntKind.i64 n4, AV.int IntKind.i64 n5, AV.int IntKind.i64 n6, AV.int IntKind.i64 n7, AV.int IntKind.i64 n8, AV.int IntKind.i64 n9, AV.bool b10, AV.int IntKind.i64 n11, AV.int IntKind.i64 n12, AV.slc (3 : Nat) es13, AV.int IntKind.i64 n14, AV.int IntKind.i64 n15, AV.int IntKind.i64 n16, AV.int IntKind.i64 n17, AV.int IntKind.i64 n18, AV.int IntKind.i64 n19, AV.int IntKind.i64 n20, AV.bool b21, AV.bool b22, AV.int IntKind.i64 n23, AV.int IntKind.i64 n24], AV.agg [AV.int IntKind.i64 n30, AV.int IntKind.i64 n31, AV.int IntKind.i64 n32, AV.int IntKind.i64 n33, AV.slc (3 : Nat) es34, AV.int IntKind.i64 n35, AV.int IntKind.i64 n36, AV.int IntKind.i64 n37, AV.int IntKind.i64 n38]] [] (AV.tup [AV.agg [AV.int IntKind.i64 n40, AV.int IntKind.i64 n41, AV.int IntKind.i64 n42, AV.int IntKind.i64 n43, AV.int IntKind.i64 n44, AV.int IntKind.i64 n45, AV.bool b46, AV.int IntKind.i64 n47, AV.int IntKind.i64 n48, AV.slc (3 : Nat) es49, AV.int IntKind.i64 n50, AV.int IntKind.i64 n51, AV.int IntKind.i64 n52, AV.int IntKind.i64 n53, AV.int IntKind.i64 n54, AV.int IntKind.i64 n55, AV.int IntKind.i64 n56, AV.bool b57, AV.bool b58, AV.int IntKind.i64 n59, AV.int IntKind.i64 n60], AV.int IntKind.i64 n61]) [] ∧ ((n61 == (0 : Int)) = true → c.cs = c.cs ∧ TNdState.z0 = TNdState.z0 ∧ J28 [AV.agg [AV.int IntKind.i64 n40, AV.int IntKind.i64 n41, AV.int IntKind.i64 n42, AV.int IntKind.i64 n43, AV.int IntKind.i64 n44, AV.int IntKind.i64 n45, AV.bool b46, AV.int IntKind.i64 n47, AV.int IntKind.i64 n48, AV.slc (3 : Nat) es49, AV.int IntKind.i64 n50, AV.int IntKind.i64 n51, AV.int IntKind.i64 n52, AV.int IntKind.i64 n53, AV.int IntKind.i64 n54, AV.int IntKind.i64 n55, AV.int IntKind.i64 n56, AV.bool b57, AV.bool b58, AV.int IntKind.i64 n59, AV.int IntKind.i64 n60]]) ∧ ((n61 == (0 : Int)) = false → c.cs = c.cs ∧ TNdState.z0 = TNdState.z0 ∧ J28 [AV.agg [AV.int IntKind.i64 n4, AV.int IntKind.i64 n5, AV.int IntKind.i64 n6, AV.int IntKind.i64 n7, AV.int IntKind.i64 n8, AV.int IntKind.i64 n9, AV.bool b10, AV.int IntKind.i64 n11, AV.int IntKind.i64 n12, AV.slc (3 : Nat) es13, AV.int IntKind.i64 n14, AV.int IntKind.i64 n15, AV.int IntKind.i64 n16, AV.int IntKind.i64 n17, AV.int IntKind.i64 n18, AV.int IntKind.i64 n19, AV.int IntKind.i64 n20, AV.bool b21, AV.bool b22, AV.int IntKind.i64 n23, AV.int IntKind.i64 n24]])) ∧ ∀ (n30 n31 n32 n33 n34 n35 : Int) (b36 : Bool) (n37 n38 : Int) (es39 : List AV) (n40 n41 n42 n43 n44 n45 n46 : Int) (b47 b48 : Bool) (n49 n50 : Int), J28 [AV.agg [AV.int IntKind.i64 n30, AV.int IntKind.i64 n31, AV.int IntKind.i64 n32, AV.int IntKind.i64 n33, AV.int IntKind.i64 n34, AV.int IntKind.i64 n35, AV.bool b36, AV.int IntKind.i64 n37, AV.int IntKind.i64 n38, AV.slc (3 : Nat) es39, AV.int IntKind.i64 n40, AV.int IntKind.i64 n41, AV.int IntKind.i64 n42, AV.int IntKind.i64 n43, AV.int IntKind.i64 n44, AV.int IntKind.i64 n45, AV.int IntKind.i64 n46, AV.bool b47, AV.bool b48, AV.int IntKind.i64 n49, AV.int IntKind.i64 n50]] → c.cs = c.cs ∧ TNdState.z0 = TNdState.z0 ∧ ∃ k54, k54 < m2 ∧ I0 k54 [AV.int IntKind.i64 (IntKind.i64.wrap (n3 + (1 : Int))), AV.agg [AV.int IntKind.i64 n30, AV.int IntKind.i64 n31, AV.int IntKind.i64 n32, AV.int IntKind.i64 n33, AV.int IntKind.i64 n34, AV.int IntKind.i64 n35, AV.bool b36, AV.int IntKind.i64 n37, AV.int IntKind.i64 n38, AV.slc (3 : Nat) es39, AV.int IntKind.i64 n40, AV.int IntKind.i64 n41, AV.int IntKind.i64 n42, AV.int IntKind.i64 n43, AV.int IntKind.i64 n44, AV.int IntKind.i64 n45, AV.int IntKind.i64 n46, AV.bool b47, AV.bool b48, AV.int IntKind.i64 n49, AV.int IntKind.i64 n50]]) ∧ (decide (n3 < (↑(List.map TNdMessage.av l).length : Int)) = false → Q (AV.agg [AV.int IntKind.i64 n4, AV.int IntKind.i64 n5, AV.int IntKind.i64 n6, AV.int IntKind.i64 n7, AV.int IntKind.i64 n8, AV.int IntKind.i64 n9, AV.bool b10, AV.int IntKind.i64 n11, AV.int IntKind.i64 n12, AV.slc (3 : Nat) es13, AV.int IntKind.i64 n14, AV.int IntKind.i64 n15, AV.int IntKind.i64 n16, AV.int IntKind.i64 n17, AV.int IntKind.i64 n18, AV.int IntKind.i64 n19, AV.int IntKind.i64 n20, AV.bool b21, AV.bool b22, AV.int IntKind.i64 n23, AV.int IntKind.i64 n24]) [])
theorem r23 (c : TNdSet) (s : TNdState) (l : List TNdMessage) (S : SpecF) (Fr : FuncId → List AV → Nat → List AV → Prop) (Q : AV → List (List AV) → Prop) : awpF Try.prog ⟨S, Fr, ⟨[], [], []⟩⟩ 0 ⟨[0, 1, 2, 3, 4, 6, 7, 8, 9, 13, 27], [⟨2, [(7, .int .i64 0)], [], [(4, .agg [.int .i64 0, .int .i64 0, .int .i64 0, .int .i64 0, .int .i64 0, .int .i64 0, .bool false, .int .i64 0, .int .i64 0, .slc 3 [], .int .i64 0, .int .i64 0, .int .i64 0, .int .i64 0, .int .i64 0, .int .i64 0, .int .i64 0, .bool false, .bool false, .int .i64 0, .int .i64 0])]⟩], [⟨3, [], [], [(4, .agg [.int .i64 0, .int .i64 0, .int .i64 0, .int .i64 0, .int .i64 0, .int .i64 0, .bool false, .int .i64 0, .int .i64 0, .slc 3 [], .int .i64 0, .int .i64 0, .int .i64 0, .int .i64 0, .int .i64 0, .int .i64 0, .int .i64 0, .bool false, .bool false, .int .i64 0, .int .i64 0])]⟩], []⟩ Try.f23 [c.av, s.av, .slc 3 (List.map TNdMessage.av l)] [] Q = R23 c s l S Fr Q := by kernel_rfl
theorem s23 (c : TNdSet) (s : TNdState) (l : List TNdMessage) (v : AV) (O : List (List AV)) (h : R23 c s l (SpecOf Try.prog) (FreshOf Try.prog) (fun r O' => r = v ∧ O' = O)) : SpecOf Try.prog 23 [c.av, s.av, .slc 3 (List.map TNdMessage.av l)] [] v O :=
  spec_by (boxes := []) mixed Try.func23 Try.call23 rfl rfl rfl (Nat.le_of_ble_eq_true rfl) (r23 c s l (SpecOf Try.prog) (FreshOf Try.prog) _) h
theorem takenS_succ {c : TNdSet} {s : TNdState} {l : List TNdMessage} {k : Nat} {m : TNdMessage} (h : l[k]? = some m) : takenS c s (l.take (k + 1)) = tstep c (takenS c s (l.take k)) m := by
  unfold takenS
  rw [List.take_add_one, h, List.foldl_append]; rfl
theorem c23 (c : TNdSet) (s : TNdState) (l : List TNdMessage) (hl : l.length ≤ 1000000) : Sp 23 [c.av, s.av, .slc 3 (List.map TNdMessage.av l)] [] (takenS c s l).av [] := s23 c s l _ _ (by
  refine ⟨fun m vs => ∃ k : Nat, k ≤ l.length ∧ m = l.length - k ∧ vs = [.int .i64 k, (takenS c s (l.take k)).av], ⟨_, 0, by omega, rfl, rfl⟩, ?_⟩
  intros
  rename_i hI
  obtain ⟨k, hk, rfl, hvs⟩ := hI
  unfold TNdState.av TNdState.cs at hvs
  cases hvs
  refine ⟨fun h1 => ?_, fun h1 => ?_⟩
  · have h1 : k < l.length := by simpa using h1
    obtain ⟨x, hx, hx'⟩ := map_get (f := TNdMessage.av) (l := l) (n := (k : Int)) (by omega) (by omega)
    have hx : l[k]? = some x := by simpa using hx
    have hM := c11 c (takenS c s (l.take k)) x
    refine ⟨fun vs => vs = [(tstep c (takenS c s (l.take k)) x).av], ⟨_, _, _, _, _, _, _, _, _, ⟨by omega, rfl, hx'⟩, _, _, _, _, _, _, _, _, _, _, _, _, _, _, _, _, _, _, _, _, _, _, hM, fun h2 => ⟨rfl, rfl, ?_⟩, fun h2 => ⟨rfl, rfl, ?_⟩⟩, ?_⟩
    · have h2 : (takeS c (takenS c s (l.take k)) x).2 = 0 := by simpa using h2
      rw [tstep, if_pos h2]; rfl
    · have h2 : (takeS c (takenS c s (l.take k)) x).2 ≠ 0 := by simpa using h2
      rw [tstep, if_neg h2]; rfl
    intros
    rename_i hJ
    unfold TNdState.av TNdState.cs at hJ
    cases hJ
    refine ⟨rfl, rfl, l.length - (k + 1), by omega, k + 1, by omega, rfl, ?_⟩
    rw [takenS_succ hx, wrap1 (m := l.length) (by omega) (by omega) (by omega)]; rfl
  · have h1 : l.length ≤ k := by simpa using h1
    rw [List.take_of_length_le h1]; exact ⟨rfl, rfl⟩)
deriving instance DecidableEq for TSnNight
deriving instance DecidableEq for TNdPlan
deriving instance DecidableEq for TNdHold
def R24 (a : TNdState) (b : TNdState) (S : SpecF) (Fr : FuncId → List AV → Nat → List AV → Prop) (Q : AV → List (List AV) → Prop) : Prop :=
  ((a.Plan.First != b.Plan.First) = true → Q (AV.bool false) []) ∧ ((a.Plan.First != b.Plan.First) = false → (((↑(List.map TSnNight.av a.Plan.Nights).length : Int) != (↑(List.map TSnNight.av b.Plan.Nights).length : Int)) = true → Q (AV.bool false) []) ∧ (((↑(List.map TSnNight.av a.Plan.Nights).length : Int) != (↑(List.map TSnNight.av b.Plan.Nights).length : Int)) = false → ∃ (I4 : Nat → List AV → Prop), (∃ m6, I4 m6 [AV.int IntKind.i64 (0 : Int)]) ∧ ∀ (m6 : Nat) (n7 : Int), I4 m6 [AV.int IntKind.i64 n7] → (decide (n7 < (↑(List.map TSnNight.av a.Plan.Nights).length : Int)) = true → ∃ n11 n12, ((0 : Int) ≤ n7 ∧ (2 : Nat) = (2 : Nat) ∧ (List.map TSnNight.av a.Plan.Nights)[n7.toNat]? = some (AV.agg [AV.int IntKind.i64 n11, AV.int IntKind.i64 n12])) ∧ ∃ n14 n15, ((0 : Int) ≤ n7 ∧ (2 : Nat) = (2 : Nat) ∧ (List.map TSnNight.av b.Plan.Nights)[n7.toNat]? = some (AV.agg [AV.int IntKind.i64 n14, AV.int IntKind.i64 n15])) ∧ ((!(n11 == n14 && (n12 == n15 && true))) = true → Q (AV.bool false) []) ∧ ((!(n11 == n14 && (n12 == n15 && true))) = false → a.cs = a.cs ∧ b.cs = b.cs ∧ ∃ k21, k21 < m6 ∧ I4 k21 [AV.int IntKind.i64 (IntKind.i64.wrap (n7 + (1 : Int)))])) ∧ (decide (n7 < (↑(List.map TSnNight.av a.Plan.Nights).length : Int)) = false → ((a.Numbers0 == b.Numbers0 && (a.Numbers1 == b.Numbers1 && (a.Numbers2 == b.Numbers2 && (a.Numbers3 == b.Numbers3 && (a.Numbers4 == b.Numbers4 && (a.Numbers5 == b.Numbers5 && true)))))) = true → ((a.Dim.From == b.Dim.From && (a.Dim.Until == b.Dim.Until && (a.Dim.Level == b.Dim.Level && true))) = true → ((a.Force.From == b.Force.From && (a.Force.Until == b.Force.Until && (a.Force.Level == b.Force.Level && true))) = true → Q (AV.bool (a.Version == b.Version)) []) ∧ ((a.Force.From == b.Force.From && (a.Force.Until == b.Force.Until && (a.Force.Level == b.Force.Level && true))) = false → Q (AV.bool false) [])) ∧ ((a.Dim.From == b.Dim.From && (a.Dim.Until == b.Dim.Until && (a.Dim.Level == b.Dim.Level && true))) = false → Q (AV.bool false) [])) ∧ ((a.Numbers0 == b.Numbers0 && (a.Numbers1 == b.Numbers1 && (a.Numbers2 == b.Numbers2 && (a.Numbers3 == b.Numbers3 && (a.Numbers4 == b.Numbers4 && (a.Numbers5 == b.Numbers5 && true)))))) = false → Q (AV.bool false) []))))
theorem r24 (a : TNdState) (b : TNdState) (S : SpecF) (Fr : FuncId → List AV → Nat → List AV → Prop) (Q : AV → List (List AV) → Prop) : awpF Try.prog ⟨S, Fr, ⟨[], [], []⟩⟩ 0 ⟨[0, 1, 2, 3, 4, 5, 23, 29, 44], [⟨4, [(5, .int .i64 0)], [], []⟩], [], []⟩ Try.f24 [a.av, b.av] [] Q = R24 a b S Fr Q := by kernel_rfl
theorem s24 (a : TNdState) (b : TNdState) (v : AV) (O : List (List AV)) (h : R24 a b (SpecOf Try.prog) (FreshOf Try.prog) (fun r O' => r = v ∧ O' = O)) : SpecOf Try.prog 24 [a.av, b.av] [] v O :=
  spec_by (boxes := []) mixed Try.func24 Try.call24 rfl rfl rfl (Nat.le_of_ble_eq_true rfl) (r24 a b (SpecOf Try.prog) (FreshOf Try.prog) _) h
theorem night_eq (x y : TSnNight) : (x.On == y.On && (x.Off == y.Off && true)) = (x == y) := by
  rw [Bool.eq_iff_iff]; cases x; cases y; simp
theorem hold_eq (x y : TNdHold) : (x.From == y.From && (x.Until == y.Until && (x.Level == y.Level && true))) = (x == y) := by
  rw [Bool.eq_iff_iff]; cases x; cases y; simp
/-- Two states of which told says that they were told the same. -/
theorem c24 (a b : TNdState) (hl : a.Plan.Nights.length ≤ 1000000) (h : toldP a b) : Sp 24 [a.av, b.av] [] (.bool true) [] := s24 a b _ _ (by
  obtain ⟨hp, hn, hd, hf, hv⟩ := h
  simp only [nums, List.cons.injEq, and_true] at hn
  obtain ⟨n0, n1, n2, n3, n4, n5⟩ := hn
  refine ⟨fun h1 => by simp [hp] at h1, fun _ => ⟨fun h1 => by simp [hp] at h1, fun _ => ?_⟩⟩
  refine ⟨fun m vs => ∃ k : Nat, k ≤ a.Plan.Nights.length ∧ m = a.Plan.Nights.length - k ∧ vs = [.int .i64 k], ⟨_, 0, by omega, rfl, rfl⟩, ?_⟩
  rintro m n ⟨k, hk, rfl, hvs⟩
  cases hvs
  refine ⟨fun h1 => ?_, fun h1 => ?_⟩
  · have h1 : k < a.Plan.Nights.length := by simpa using h1
    obtain ⟨x, hx, hx'⟩ := map_get (f := TSnNight.av) (l := a.Plan.Nights) (n := (k : Int)) (by omega) (by omega)
    refine ⟨_, _, ⟨by omega, rfl, hx'⟩, _, _, ⟨by omega, rfl, by rw [← hp]; exact hx'⟩, fun h2 => by simp at h2, fun _ => ⟨rfl, rfl, a.Plan.Nights.length - (k + 1), by omega, k + 1, by omega, rfl, ?_⟩⟩
    rw [wrap1 (m := a.Plan.Nights.length) (by omega) (by omega) (by omega)]; rfl
  · refine ⟨fun _ => ⟨fun _ => ⟨fun _ => ⟨by simp [hv], rfl⟩, fun h2 => by simp [hf] at h2⟩, fun h2 => by simp [hd] at h2⟩, fun h2 => by simp [n0, n1, n2, n3, n4, n5] at h2⟩)
def R19 (c : TNdSet) (time : Int) (S : SpecF) (Fr : FuncId → List AV → Nat → List AV → Prop) (Q : AV → List (List AV) → Prop) : Prop :=
  ∃ (I0 : Nat → List AV → Prop), (∃ m2, I0 m2 [AV.int IntKind.i64 (if (0 : Int) > IntKind.i64.wrap (IntKind.i64.wrap (time.tdiv (86400 : Int)) - (1 : Int)) then (0 : Int) else IntKind.i64.wrap (IntKind.i64.wrap (time.tdiv (86400 : Int)) - (1 : Int)))]) ∧ ∀ (m2 : Nat) (n3 : Int), I0 m2 [AV.int IntKind.i64 n3] → (decide (n3 ≤ IntKind.i64.wrap (time.tdiv (86400 : Int))) = true → (decide (IntKind.i64.wrap (time - IntKind.i64.wrap (n3 * (86400 : Int))) ≥ c.Core.On) = true → (decide (IntKind.i64.wrap (time - IntKind.i64.wrap (n3 * (86400 : Int))) < c.Core.Off) = true → Q (AV.bool true) []) ∧ (decide (IntKind.i64.wrap (time - IntKind.i64.wrap (n3 * (86400 : Int))) < c.Core.Off) = false → c.cs = c.cs ∧ ∃ k12, k12 < m2 ∧ I0 k12 [AV.int IntKind.i64 (IntKind.i64.wrap (n3 + (1 : Int)))])) ∧ (decide (IntKind.i64.wrap (time - IntKind.i64.wrap (n3 * (86400 : Int))) ≥ c.Core.On) = false → c.cs = c.cs ∧ ∃ k10, k10 < m2 ∧ I0 k10 [AV.int IntKind.i64 (IntKind.i64.wrap (n3 + (1 : Int)))])) ∧ (decide (n3 ≤ IntKind.i64.wrap (time.tdiv (86400 : Int))) = false → Q (AV.bool false) [])
theorem r19 (c : TNdSet) (time : Int) (S : SpecF) (Fr : FuncId → List AV → Nat → List AV → Prop) (Q : AV → List (List AV) → Prop) : awpF Try.prog ⟨S, Fr, ⟨[], [], []⟩⟩ 0 ⟨[0, 1, 2, 4, 5, 6, 7, 15, 33], [⟨3, [(6, .int .i64 0)], [], []⟩], [], []⟩ Try.f19 [c.av, .int .i64 time] [] Q = R19 c time S Fr Q := by kernel_rfl
theorem s19 (c : TNdSet) (time : Int) (v : AV) (O : List (List AV)) (h : R19 c time (SpecOf Try.prog) (FreshOf Try.prog) (fun r O' => r = v ∧ O' = O)) : SpecOf Try.prog 19 [c.av, .int .i64 time] [] v O :=
  spec_by (boxes := []) mixed Try.func19 Try.call19 rfl rfl rfl (Nat.le_of_ble_eq_true rfl) (r19 c time (SpecOf Try.prog) (FreshOf Try.prog) _) h
open Classical in
noncomputable def coreB (c : TNdSet) (time : Int) : Bool := decide (coreP c time)
theorem coreB_iff (c : TNdSet) (time : Int) : coreB c time = true ↔ coreP c time := by unfold coreB; classical exact decide_eq_true_iff
theorem c19 (c : TNdSet) (time : Int) (h : 0 ≤ time ∧ time ≤ 4000000000) : Sp 19 [c.av, .int .i64 time] [] (.bool (coreB c time)) [] := s19 c time _ _ (by
  have e1 : time.tdiv 86400 = time / 86400 := Int.tdiv_eq_ediv_of_nonneg h.1
  have e2 : IntKind.i64.wrap (time.tdiv 86400) = time / 86400 := by rw [e1]; exact i64 (by omega)
  have e3 : IntKind.i64.wrap (IntKind.i64.wrap (time.tdiv 86400) - 1) = time / 86400 - 1 := by rw [e2]; exact i64 (by omega)
  unfold R19
  rw [e3, e2]
  refine ⟨fun m vs => ∃ k : Int, 0 ≤ k ∧ time / 86400 - 1 ≤ k ∧ k ≤ time / 86400 + 1 ∧ m = (time / 86400 + 1 - k).toNat ∧ vs = [.int .i64 k] ∧ ∀ day : Int, 0 ≤ day → time / 86400 - 1 ≤ day → day < k → ¬ (c.Core.On ≤ time - day * 86400 ∧ time - day * 86400 < c.Core.Off), ⟨_, if (0 : Int) > time / 86400 - 1 then 0 else time / 86400 - 1, ?_, ?_, ?_, rfl, rfl, ?_⟩, ?_⟩
  · split <;> omega
  · split <;> omega
  · split <;> omega
  · intro day h0 h1 h2; split at h2 <;> omega
  rintro m k ⟨q, k0, k1, k2, rfl, hvs, hin⟩
  cases hvs
  have e4 : IntKind.i64.wrap (k * 86400) = k * 86400 := i64 (by omega)
  have e5 : IntKind.i64.wrap (time - IntKind.i64.wrap (k * 86400)) = time - k * 86400 := by rw [e4]; exact i64 (by omega)
  have e6 : IntKind.i64.wrap (k + 1) = k + 1 := i64 (by omega)
  rw [e5, e6]
  refine ⟨fun h1 => ?_, fun h1 => ⟨?_, rfl⟩⟩
  · have h1 := of_decide_eq_true h1
    have hstep : ¬ (c.Core.On ≤ time - k * 86400 ∧ time - k * 86400 < c.Core.Off) → ∃ j, j < (time / 86400 + 1 - k).toNat ∧ ∃ k' : Int, 0 ≤ k' ∧ time / 86400 - 1 ≤ k' ∧ k' ≤ time / 86400 + 1 ∧ j = (time / 86400 + 1 - k').toNat ∧ ([.int .i64 (k + 1)] : List AV) = [.int .i64 k'] ∧ ∀ day : Int, 0 ≤ day → time / 86400 - 1 ≤ day → day < k' → ¬ (c.Core.On ≤ time - day * 86400 ∧ time - day * 86400 < c.Core.Off) := by
      intro hc
      refine ⟨(time / 86400 + 1 - (k + 1)).toNat, by omega, k + 1, by omega, by omega, by omega, rfl, rfl, fun day d0 d1 d2 => ?_⟩
      by_cases hdk : day = k
      · subst hdk; exact hc
      · exact hin day d0 d1 (by omega)
    refine ⟨fun h2 => ⟨fun h3 => ⟨?_, rfl⟩, fun h3 => ⟨rfl, hstep fun h => absurd h.2 (of_decide_eq_false h3)⟩⟩, fun h2 => ⟨rfl, hstep fun h => absurd h.1 (of_decide_eq_false h2)⟩⟩
    have h2 := of_decide_eq_true h2
    have h3 := of_decide_eq_true h3
    have : coreB c time = true := (coreB_iff c time).2 ⟨k, by omega, k0, h2, h3⟩
    rw [this]
  · have h1 := of_decide_eq_false h1
    have : coreB c time = false := by
      rw [Bool.eq_false_iff]
      intro hh
      obtain ⟨day, hd, d0, d1, d2⟩ := (coreB_iff c time).1 hh
      exact hin day d0 (by omega) (by omega) ⟨d1, d2⟩
    rw [this])
end Go.Proofs.Ytdaanpgdjjodcaa

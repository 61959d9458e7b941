/- Contracts: the reference's checks. Contracts: the reference's Check and what asks it. Contracts: the reference's paths, currents, roots. -/
import Derived.Test.YtbdbnpnichkcjaaQ
import Derived.Test.YtbdbnpnichkcjaaX6
namespace Go.Proofs.Ytbdbnpnichkcjaa
open Go.RowKit
theorem any_take {α : Type} {q : α → Bool} {l : List α} {k : Nat} {x : α} (h : l[k]? = some x) : (l.take (k + 1)).any q = ((l.take k).any q || q x) := by
  rw [List.take_add_one, h, List.any_append]; simp
def R56 (f : TFeFeeder) (i : Int) (S : SpecF) (_Fr : FuncId → List AV → Nat → List AV → Prop) (_Sq : FuncId → List AV → List (List AV) → List (List AV) → Prop) (Q : AV → List (List AV) → Prop) : Prop :=
  ∃ s0 n1 n2 n3 n4 n5, ((0 : Int) ≤ i ∧ (6 : Nat) = (6 : Nat) ∧ (List.map TFeCable.av f.Cables)[i.toNat]? = some (AV.agg [AV.str s0, AV.int .i64 n1, AV.int .i64 n2, AV.int .i64 n3, AV.int .i64 n4, AV.int .i64 n5])) ∧ ∃ b7, S (103 : Nat) [AV.str s0] [] (AV.bool b7) [] ∧ ((!b7) = true → Q (AV.int .i64 (6 : Int)) []) ∧ ((!b7) = false → ∃ (I11 : Nat → List AV → Prop), (∃ m13, I11 m13 [AV.int .i64 (0 : Int)]) ∧ ∀ (m13 : Nat) (n14 : Int), I11 m13 [AV.int .i64 n14] → (decide (n14 < i) = true → ∃ s18 n19 n20 n21 n22 n23, ((0 : Int) ≤ n14 ∧ (6 : Nat) = (6 : Nat) ∧ (List.map TFeCable.av f.Cables)[n14.toNat]? = some (AV.agg [AV.str s18, AV.int .i64 n19, AV.int .i64 n20, AV.int .i64 n21, AV.int .i64 n22, AV.int .i64 n23])) ∧ ((s18.toList == s0.toList) = true → Q (AV.int .i64 (5 : Int)) []) ∧ ((s18.toList == s0.toList) = false → f.cs = f.cs ∧ [AV.str s0, AV.int .i64 n1, AV.int .i64 n2, AV.int .i64 n3, AV.int .i64 n4, AV.int .i64 n5] = [AV.str s0, AV.int .i64 n1, AV.int .i64 n2, AV.int .i64 n3, AV.int .i64 n4, AV.int .i64 n5] ∧ ∃ k29, k29 < m13 ∧ I11 k29 [AV.int .i64 (IntKind.i64.wrap (n14 + (1 : Int)))])) ∧ (decide (n14 < i) = false → ∃ b18, S (54 : Nat) [AV.agg [AV.int .i64 n1, AV.int .i64 n2], AV.int .i64 (1 : Int), AV.int .i64 (1000000 : Int)] [] (AV.bool b18) [] ∧ ((!b18) = true → Q (AV.int .i64 (7 : Int)) []) ∧ ((!b18) = false → ∃ b22, S (54 : Nat) [AV.agg [AV.int .i64 n3, AV.int .i64 n4], AV.int .i64 (1 : Int), AV.int .i64 (1000000 : Int)] [] (AV.bool b22) [] ∧ ((!b22) = true → Q (AV.int .i64 (7 : Int)) []) ∧ ((!b22) = false → ∃ b26, S (55 : Nat) [AV.int .i64 n5, AV.int .i64 (1 : Int), AV.int .i64 (100000000 : Int)] [] (AV.bool b26) [] ∧ ((!b26) = true → Q (AV.int .i64 (7 : Int)) []) ∧ ((!b26) = false → Q (AV.int .i64 (0 : Int)) [])))))
theorem r56 (f : TFeFeeder) (i : Int) (S : SpecF) (Fr : FuncId → List AV → Nat → List AV → Prop) (Sq : FuncId → List AV → List (List AV) → List (List AV) → Prop) (Q : AV → List (List AV) → Prop) : awpF Try.prog (mkS Try.prog S Fr Sq ⟨[], [], [], [], []⟩ 0) 0 ⟨[0, 1, 2, 4, 5, 6, 15, 18, 29, 45], [⟨5, [(6, .int .i64 0)], [], [], [], []⟩], [], []⟩ Try.f56 [f.av, .int .i64 i] [] Q = R56 f i S Fr Sq Q := by kernel_rfl
theorem s56 (f : TFeFeeder) (i : Int) (v : AV) (O : List (List AV)) (h : R56 f i (SpecOf Try.prog) (FreshOf Try.prog) (SeqOf Try.prog) (fun r O' => r = v ∧ O' = O)) : SpecOf Try.prog 56 [f.av, .int .i64 i] [] v O :=
  spec_by (boxes := []) mixed (by exact trivial) Try.func56 Try.call56 rfl rfl rfl (Nat.le_of_ble_eq_true rfl) (r56 f i (SpecOf Try.prog) (FreshOf Try.prog) (SeqOf Try.prog) _) h
theorem c56 (f : TFeFeeder) (i : Nat) (hl : f.Cables.length ≤ 1000000) (hi : i < f.Cables.length) (hnm : ∀ x ∈ f.Cables, x.Name.size ≤ 9223372036854775807) : Sp 56 [f.av, .int .i64 i] [] (.int .i64 (errAt TFeCable.Name cableS f.Cables i)) [] := s56 f i _ _ (by
  unfold R56
  obtain ⟨x, hx, hx'⟩ := map_getN (f := TFeCable.av) hi
  have hat := errAt_some (nm := TFeCable.Name) (rest := cableS) hx
  refine ⟨x.Name, x.Core.Lo, x.Core.Hi, x.Earth.Lo, x.Earth.Hi, x.Rated, ⟨by omega, rfl, hx'⟩, _, c103 x.Name (hnm x (List.mem_of_getElem? hx)), fun h1 => ⟨?_, rfl⟩, fun h1 => ?_⟩
  · rw [hat, if_pos h1]
  have h1' : ¬ (!nameB x.Name) = true := by rw [h1]; simp
  refine ⟨fun m vs => ∃ k : Nat, k ≤ i ∧ m = i - k ∧ vs = [.int .i64 k] ∧ ((f.Cables.take k).any fun y => twinB y.Name x.Name) = false, ⟨_, 0, by omega, rfl, rfl, rfl⟩, ?_⟩
  rintro m n ⟨k, hk, rfl, hv, ha⟩
  cases hv
  refine ⟨fun h2 => ?_, fun h2 => ?_⟩
  · have h2 : k < i := by simpa using h2
    obtain ⟨y, hy, hy'⟩ := map_getN (f := TFeCable.av) (l := f.Cables) (k := k) (by omega)
    have hs := any_take (q := fun y : TFeCable => twinB y.Name x.Name) hy
    refine ⟨y.Name, y.Core.Lo, y.Core.Hi, y.Earth.Lo, y.Earth.Hi, y.Rated, ⟨by omega, rfl, hy'⟩, fun h3 => ⟨?_, rfl⟩, fun h3 => ?_⟩
    · have : ((f.Cables.take i).any fun y => twinB y.Name x.Name) = true := List.any_eq_true.2 ⟨y, List.mem_of_getElem? (by rw [List.getElem?_take, if_pos h2]; exact hy), h3⟩
      rw [hat, if_neg h1', if_pos this]
    · repeat refine And.intro rfl ?_
      exact ⟨_, (by omega : i - (k + 1) < i - k), k + 1, by omega, rfl, by rw [wrapN (by omega)], by rw [hs, ha]; exact h3⟩
  · obtain rfl : k = i := by simp at h2; omega
    have he : errAt TFeCable.Name cableS f.Cables k = cableS k x := by rw [hat, if_neg h1', if_neg (by rw [ha]; simp)]
    rw [he]
    refine ⟨_, c54 x.Core _ _, fun h3 => ⟨?_, rfl⟩, fun h3 => ⟨_, c54 x.Earth _ _, fun h4 => ⟨?_, rfl⟩, fun h4 => ⟨_, c55 _ _ _, fun h5 => ⟨?_, rfl⟩, fun h5 => ⟨?_, rfl⟩⟩⟩⟩ <;> simp_all [cableS])
theorem bnot_and {a b : Bool} : (!a || b) = !(a && !b) := by cases a <;> cases b <;> rfl
def R57 (f : TFeFeeder) (i : Int) (S : SpecF) (_Fr : FuncId → List AV → Nat → List AV → Prop) (_Sq : FuncId → List AV → List (List AV) → List (List AV) → Prop) (Q : AV → List (List AV) → Prop) : Prop :=
  ∃ s0 n1 es2, ((0 : Int) ≤ i ∧ (3 : Nat) = (3 : Nat) ∧ (List.map TFeFuse.av f.Fuses)[i.toNat]? = some (AV.agg [AV.str s0, AV.int .i64 n1, AV.slc (3 : Nat) es2])) ∧ ∃ b4, S (103 : Nat) [AV.str s0] [] (AV.bool b4) [] ∧ ((!b4) = true → Q (AV.int .i64 (6 : Int)) []) ∧ ((!b4) = false → ∃ (I8 : Nat → List AV → Prop), (∃ m10, I8 m10 [AV.int .i64 (0 : Int)]) ∧ ∀ (m10 : Nat) (n11 : Int), I8 m10 [AV.int .i64 n11] → (decide (n11 < i) = true → ∃ s15 n16 es17, ((0 : Int) ≤ n11 ∧ (3 : Nat) = (3 : Nat) ∧ (List.map TFeFuse.av f.Fuses)[n11.toNat]? = some (AV.agg [AV.str s15, AV.int .i64 n16, AV.slc (3 : Nat) es17])) ∧ ((s15.toList == s0.toList) = true → Q (AV.int .i64 (5 : Int)) []) ∧ ((s15.toList == s0.toList) = false → f.cs = f.cs ∧ [AV.str s0, AV.int .i64 n1, AV.slc (3 : Nat) es2] = [AV.str s0, AV.int .i64 n1, AV.slc (3 : Nat) es2] ∧ ∃ k23, k23 < m10 ∧ I8 k23 [AV.int .i64 (IntKind.i64.wrap (n11 + (1 : Int)))])) ∧ (decide (n11 < i) = false → ∃ b15, S (55 : Nat) [AV.int .i64 (↑es2.length : Int), AV.int .i64 (1 : Int), AV.int .i64 (8 : Int)] [] (AV.bool b15) [] ∧ ((!b15) = true → Q (AV.int .i64 (3 : Int)) []) ∧ ((!b15) = false → ∃ b19, S (55 : Nat) [AV.int .i64 n1, AV.int .i64 (1 : Int), AV.int .i64 (100000000 : Int)] [] (AV.bool b19) [] ∧ ∃ (I21 : Nat → List AV → Prop), (∃ m23, I21 m23 [AV.bool b19, AV.int .i64 (0 : Int)]) ∧ ∀ (m23 : Nat) (b24 : Bool) (n25 : Int), I21 m23 [AV.bool b24, AV.int .i64 n25] → (decide (n25 < (↑es2.length : Int)) = true → (b24 = true → ∃ n31 n32 n33, ((0 : Int) ≤ n25 ∧ (3 : Nat) = (3 : Nat) ∧ es2[n25.toNat]? = some (AV.agg [AV.int .i64 n31, AV.int .i64 n32, AV.int .i64 n33])) ∧ ∃ b35, S (55 : Nat) [AV.int .i64 n31, AV.int .i64 (1 : Int), AV.int .i64 (100000000 : Int)] [] (AV.bool b35) [] ∧ (b35 = true → ∃ n39 n40 n41, ((0 : Int) ≤ n25 ∧ (3 : Nat) = (3 : Nat) ∧ es2[n25.toNat]? = some (AV.agg [AV.int .i64 n39, AV.int .i64 n40, AV.int .i64 n41])) ∧ ∃ b43, S (54 : Nat) [AV.agg [AV.int .i64 n40, AV.int .i64 n41], AV.int .i64 (1 : Int), AV.int .i64 (100000000 : Int)] [] (AV.bool b43) [] ∧ f.cs = f.cs ∧ [AV.str s0, AV.int .i64 n1, AV.slc (3 : Nat) es2] = [AV.str s0, AV.int .i64 n1, AV.slc (3 : Nat) es2] ∧ ∃ k47, k47 < m23 ∧ I21 k47 [AV.bool b43, AV.int .i64 (IntKind.i64.wrap (n25 + (1 : Int)))]) ∧ (b35 = false → f.cs = f.cs ∧ [AV.str s0, AV.int .i64 n1, AV.slc (3 : Nat) es2] = [AV.str s0, AV.int .i64 n1, AV.slc (3 : Nat) es2] ∧ ∃ k41, k41 < m23 ∧ I21 k41 [AV.bool false, AV.int .i64 (IntKind.i64.wrap (n25 + (1 : Int)))])) ∧ (b24 = false → f.cs = f.cs ∧ [AV.str s0, AV.int .i64 n1, AV.slc (3 : Nat) es2] = [AV.str s0, AV.int .i64 n1, AV.slc (3 : Nat) es2] ∧ ∃ k33, k33 < m23 ∧ I21 k33 [AV.bool false, AV.int .i64 (IntKind.i64.wrap (n25 + (1 : Int)))])) ∧ (decide (n25 < (↑es2.length : Int)) = false → ((!b24) = true → Q (AV.int .i64 (7 : Int)) []) ∧ ((!b24) = false → ∃ (I31 : Nat → List AV → Prop), (∃ m33, I31 m33 [AV.int .i64 (1 : Int)]) ∧ ∀ (m33 : Nat) (n34 : Int), I31 m33 [AV.int .i64 n34] → (decide (n34 < (↑es2.length : Int)) = true → ∃ n38 n39 n40, ((0 : Int) ≤ IntKind.i64.wrap (n34 - (1 : Int)) ∧ (3 : Nat) = (3 : Nat) ∧ es2[(IntKind.i64.wrap (n34 - (1 : Int))).toNat]? = some (AV.agg [AV.int .i64 n38, AV.int .i64 n39, AV.int .i64 n40])) ∧ ∃ n42 n43 n44, ((0 : Int) ≤ n34 ∧ (3 : Nat) = (3 : Nat) ∧ es2[n34.toNat]? = some (AV.agg [AV.int .i64 n42, AV.int .i64 n43, AV.int .i64 n44])) ∧ (decide (n42 ≤ n38) = true → Q (AV.int .i64 (2 : Int)) []) ∧ (decide (n42 ≤ n38) = false → (decide (n43 > n39) = true → Q (AV.int .i64 (2 : Int)) []) ∧ (decide (n43 > n39) = false → (decide (n44 > n40) = true → Q (AV.int .i64 (2 : Int)) []) ∧ (decide (n44 > n40) = false → f.cs = f.cs ∧ [AV.str s0, AV.int .i64 n1, AV.slc (3 : Nat) es2] = [AV.str s0, AV.int .i64 n1, AV.slc (3 : Nat) es2] ∧ ∃ k54, k54 < m33 ∧ I31 k54 [AV.int .i64 (IntKind.i64.wrap (n34 + (1 : Int)))])))) ∧ (decide (n34 < (↑es2.length : Int)) = false → Q (AV.int .i64 (0 : Int)) []))))))
theorem r57 (f : TFeFeeder) (i : Int) (S : SpecF) (Fr : FuncId → List AV → Nat → List AV → Prop) (Sq : FuncId → List AV → List (List AV) → List (List AV) → Prop) (Q : AV → List (List AV) → Prop) : awpF Try.prog (mkS Try.prog S Fr Sq ⟨[], [], [], [], []⟩ 0) 0 ⟨[0, 1, 2, 4, 5, 6, 7, 8, 9, 10, 11, 20, 23, 34, 39, 47, 70, 75, 111], [⟨5, [(6, .int .i64 0)], [], [], [], []⟩, ⟨13, [(7, .bool false), (8, .int .i64 0)], [], [], [], []⟩, ⟨19, [(9, .int .i64 0)], [], [], [], []⟩], [], []⟩ Try.f57 [f.av, .int .i64 i] [] Q = R57 f i S Fr Sq Q := by kernel_rfl
theorem s57 (f : TFeFeeder) (i : Int) (v : AV) (O : List (List AV)) (h : R57 f i (SpecOf Try.prog) (FreshOf Try.prog) (SeqOf Try.prog) (fun r O' => r = v ∧ O' = O)) : SpecOf Try.prog 57 [f.av, .int .i64 i] [] v O :=
  spec_by (boxes := []) mixed (by exact trivial) Try.func57 Try.call57 rfl rfl rfl (Nat.le_of_ble_eq_true rfl) (r57 f i (SpecOf Try.prog) (FreshOf Try.prog) (SeqOf Try.prog) _) h
theorem c57 (f : TFeFeeder) (i : Nat) (hl : f.Fuses.length ≤ 1000000) (hi : i < f.Fuses.length) (hnm : ∀ x ∈ f.Fuses, x.Name.size ≤ 9223372036854775807) : Sp 57 [f.av, .int .i64 i] [] (.int .i64 (errAt TFeFuse.Name curveS f.Fuses i)) [] := s57 f i _ _ (by
  unfold R57
  obtain ⟨x, hx, hx'⟩ := map_getN (f := TFeFuse.av) hi
  have hat := errAt_some (nm := TFeFuse.Name) (rest := curveS) hx
  refine ⟨x.Name, x.Rated, List.map TFePoint.av x.Points, ⟨by omega, rfl, hx'⟩, _, c103 x.Name (hnm x (List.mem_of_getElem? hx)), fun h1 => ⟨?_, rfl⟩, fun h1 => ?_⟩
  · rw [hat, if_pos h1]
  have h1' : ¬ (!nameB x.Name) = true := by rw [h1]; simp
  refine ⟨fun m vs => ∃ k : Nat, k ≤ i ∧ m = i - k ∧ vs = [.int .i64 k] ∧ ((f.Fuses.take k).any fun y => twinB y.Name x.Name) = false, ⟨_, 0, by omega, rfl, rfl, rfl⟩, ?_⟩
  rintro m n ⟨k, hk, rfl, hv, ha⟩
  cases hv
  refine ⟨fun h2 => ?_, fun h2 => ?_⟩
  · have h2 : k < i := by simpa using h2
    obtain ⟨y, hy, hy'⟩ := map_getN (f := TFeFuse.av) (l := f.Fuses) (k := k) (by omega)
    have hs := any_take (q := fun y : TFeFuse => twinB y.Name x.Name) hy
    refine ⟨y.Name, y.Rated, List.map TFePoint.av y.Points, ⟨by omega, rfl, hy'⟩, fun h3 => ⟨?_, rfl⟩, fun h3 => ?_⟩
    · have : ((f.Fuses.take i).any fun y => twinB y.Name x.Name) = true := List.any_eq_true.2 ⟨y, List.mem_of_getElem? (by rw [List.getElem?_take, if_pos h2]; exact hy), h3⟩
      rw [hat, if_neg h1', if_pos this]
    · repeat refine And.intro rfl ?_
      exact ⟨_, (by omega : i - (k + 1) < i - k), k + 1, by omega, rfl, by rw [wrapN (by omega)], by rw [hs, ha]; exact h3⟩
  · obtain rfl : k = i := by simp at h2; omega
    have he : errAt TFeFuse.Name curveS f.Fuses k = curveS k x := by rw [hat, if_neg h1', if_neg (by rw [ha]; simp)]
    rw [he]
    simp only [List.length_map]
    refine ⟨_, c55 _ _ _, fun h3 => ⟨?_, trivial⟩, fun h3 => ⟨_, c55 _ _ _, ?_⟩⟩
    · rw [curveS, if_pos h3]
    have h3' : ¬ (!inB x.Points.length 1 8) = true := by rw [h3]; simp
    have h8 := inB_iff.1 (by simpa using h3 : inB x.Points.length 1 8 = true)
    refine ⟨fun m vs => ∃ j : Nat, j ≤ x.Points.length ∧ m = x.Points.length - j ∧ vs = [.bool (inB x.Rated 1 100000000 && !(x.Points.take j).any wildP), .int .i64 j], ⟨_, 0, by omega, rfl, by simp⟩, ?_⟩
    rintro m b n ⟨j, hj, rfl, hv⟩
    cases hv
    refine ⟨fun h4 => ?_, fun h4 => ?_⟩
    · have h4 : j < x.Points.length := by simpa using h4
      obtain ⟨p, hp, hp'⟩ := map_getN (f := TFePoint.av) h4
      have hs := any_take (q := wildP) hp
      have hw : IntKind.i64.wrap ((j : Int) + 1) = ((j + 1 : Nat) : Int) := wrapN (by omega)
      rw [hw]
      have fin : ∀ b : Bool, b = (inB x.Rated 1 100000000 && !(x.Points.take (j + 1)).any wildP) → ∃ m', m' < x.Points.length - j ∧ ∃ j' : Nat, j' ≤ x.Points.length ∧ m' = x.Points.length - j' ∧ [AV.bool b, .int .i64 ((j + 1 : Nat) : Int)] = [.bool (inB x.Rated 1 100000000 && !(x.Points.take j').any wildP), .int .i64 j'] := fun b hb =>
        ⟨_, (by omega : x.Points.length - (j + 1) < x.Points.length - j), j + 1, by omega, rfl, by rw [hb]⟩
      refine ⟨fun g1 => ⟨p.Current, p.Melt.Lo, p.Melt.Hi, ⟨by omega, trivial, hp'⟩, _, c55 _ _ _, fun g2 => ⟨p.Current, p.Melt.Lo, p.Melt.Hi, ⟨by omega, trivial, hp'⟩, _, c54 p.Melt _ _, ?_⟩, fun g2 => ?_⟩, fun g1 => ?_⟩
      · have hh : wiB p.Melt 1 100000000 = (inB x.Rated 1 100000000 && !(x.Points.take (j + 1)).any wildP) := by
          rw [hs]
          simp only [Bool.and_eq_true, Bool.not_eq_true'] at g1
          rw [g1.1, g1.2, wildP, g2]; simp
        first | exact fin _ hh | exact ⟨trivial, fin _ hh⟩ | exact ⟨trivial, trivial, fin _ hh⟩ | exact ⟨trivial, trivial, trivial, fin _ hh⟩
      · have hh : false = (inB x.Rated 1 100000000 && !(x.Points.take (j + 1)).any wildP) := by
          rw [hs, wildP, g2]; simp
        first | exact fin _ hh | exact ⟨trivial, fin _ hh⟩ | exact ⟨trivial, trivial, fin _ hh⟩ | exact ⟨trivial, trivial, trivial, fin _ hh⟩
      · have hh : false = (inB x.Rated 1 100000000 && !(x.Points.take (j + 1)).any wildP) := by
          rw [hs]
          cases hr : inB x.Rated 1 100000000
          · rfl
          · rw [hr] at g1
            have : (x.Points.take j).any wildP = true := by simpa using g1
            rw [this]; rfl
        first | exact fin _ hh | exact ⟨trivial, fin _ hh⟩ | exact ⟨trivial, trivial, fin _ hh⟩ | exact ⟨trivial, trivial, trivial, fin _ hh⟩
    · obtain rfl : j = x.Points.length := by simp at h4; omega
      rw [List.take_length]
      refine ⟨fun g1 => ⟨?_, trivial⟩, fun g1 => ?_⟩
      · have : (!inB x.Rated 1 100000000 || x.Points.any wildP) = true := by
          rw [bnot_and]; exact g1
        rw [curveS, if_neg h3', if_pos this]
      · have hng : ¬ (!inB x.Rated 1 100000000 || x.Points.any wildP) = true := by
          rw [bnot_and, g1]; simp
        have hc : curveS k x = stepsS x.Points := by rw [curveS, if_neg h3', if_neg hng]
        rw [hc]
        refine ⟨fun m vs => ∃ q : Nat, q + 1 ≤ x.Points.length ∧ m = x.Points.length - q ∧ vs = [.int .i64 ((q + 1 : Nat) : Int)] ∧ stepsS (x.Points.drop q) = stepsS x.Points, ⟨_, 0, by omega, rfl, rfl, rfl⟩, ?_⟩
        rintro m n ⟨q, hq, rfl, hv, hst⟩
        cases hv
        refine ⟨fun g2 => ?_, fun g2 => ⟨?_, trivial⟩⟩
        · have g2 : q + 1 < x.Points.length := by simp at g2; omega
          obtain ⟨a, ha, ha'⟩ := map_getN (f := TFePoint.av) (l := x.Points) (k := q) (by omega)
          obtain ⟨b, hb, hb'⟩ := map_getN (f := TFePoint.av) (l := x.Points) (k := q + 1) (by omega)
          have hw1 : IntKind.i64.wrap (((q + 1 : Nat) : Int) - 1) = (q : Int) := by rw [i64 (by omega)]; omega
          have hw2 : IntKind.i64.wrap (((q + 1 : Nat) : Int) + 1) = ((q + 1 + 1 : Nat) : Int) := wrapN (by omega)
          rw [hw1, hw2]
          have hss := stepsS_at ha hb
          refine ⟨a.Current, a.Melt.Lo, a.Melt.Hi, ⟨by omega, trivial, ha'⟩, b.Current, b.Melt.Lo, b.Melt.Hi, ⟨by omega, trivial, hb'⟩, fun g3 => ⟨?_, trivial⟩, fun g3 => ⟨fun g4 => ⟨?_, trivial⟩, fun g4 => ⟨fun g5 => ⟨?_, trivial⟩, fun g5 => ?_⟩⟩⟩
          · rw [← hst, hss, stepB, g3]; rfl
          · rw [← hst, hss, stepB, g3, g4]; rfl
          · rw [← hst, hss, stepB, g3, g4, g5]; rfl
          · repeat refine And.intro trivial ?_
            exact ⟨_, (by omega : x.Points.length - (q + 1) < x.Points.length - q), q + 1, by omega, rfl, rfl, by rw [← hst, hss, stepB, g3, g4, g5]; rfl⟩
        · rw [← hst, stepsS_end (by simp at g2; omega)])
def R58 (f : TFeFeeder) (i : Int) (S : SpecF) (_Fr : FuncId → List AV → Nat → List AV → Prop) (_Sq : FuncId → List AV → List (List AV) → List (List AV) → Prop) (Q : AV → List (List AV) → Prop) : Prop :=
  ∃ s0 n1 n2 n3 n4 n5 n6 n7 n8 n9 n10, ((0 : Int) ≤ i ∧ (11 : Nat) = (11 : Nat) ∧ (List.map TFeNode.av f.Nodes)[i.toNat]? = some (AV.agg [AV.str s0, AV.int .i64 n1, AV.int .i64 n2, AV.int .i64 n3, AV.int .i64 n4, AV.int .i64 n5, AV.int .i64 n6, AV.int .i64 n7, AV.int .i64 n8, AV.int .i64 n9, AV.int .i64 n10])) ∧ ∃ b12, S (103 : Nat) [AV.str s0] [] (AV.bool b12) [] ∧ ((!b12) = true → Q (AV.int .i64 (6 : Int)) []) ∧ ((!b12) = false → ∃ (I16 : Nat → List AV → Prop), (∃ m18, I16 m18 [AV.int .i64 (0 : Int)]) ∧ ∀ (m18 : Nat) (n19 : Int), I16 m18 [AV.int .i64 n19] → (decide (n19 < i) = true → ∃ s23 n24 n25 n26 n27 n28 n29 n30 n31 n32 n33, ((0 : Int) ≤ n19 ∧ (11 : Nat) = (11 : Nat) ∧ (List.map TFeNode.av f.Nodes)[n19.toNat]? = some (AV.agg [AV.str s23, AV.int .i64 n24, AV.int .i64 n25, AV.int .i64 n26, AV.int .i64 n27, AV.int .i64 n28, AV.int .i64 n29, AV.int .i64 n30, AV.int .i64 n31, AV.int .i64 n32, AV.int .i64 n33])) ∧ ((s23.toList == s0.toList) = true → Q (AV.int .i64 (5 : Int)) []) ∧ ((s23.toList == s0.toList) = false → f.cs = f.cs ∧ [AV.str s0, AV.int .i64 n1, AV.int .i64 n2, AV.int .i64 n3, AV.int .i64 n4, AV.int .i64 n5, AV.int .i64 n6, AV.int .i64 n7, AV.int .i64 n8, AV.int .i64 n9, AV.int .i64 n10] = [AV.str s0, AV.int .i64 n1, AV.int .i64 n2, AV.int .i64 n3, AV.int .i64 n4, AV.int .i64 n5, AV.int .i64 n6, AV.int .i64 n7, AV.int .i64 n8, AV.int .i64 n9, AV.int .i64 n10] ∧ ∃ k39, k39 < m18 ∧ I16 k39 [AV.int .i64 (IntKind.i64.wrap (n19 + (1 : Int)))])) ∧ (decide (n19 < i) = false → ((i == (0 : Int)) = true → ((n1 != (-1 : Int)) = true → Q (AV.int .i64 (2 : Int)) []) ∧ ((n1 != (-1 : Int)) = false → ((n2 != (-1 : Int)) = true → Q (AV.int .i64 (2 : Int)) []) ∧ ((n2 != (-1 : Int)) = false → ((n3 != (0 : Int)) = true → Q (AV.int .i64 (2 : Int)) []) ∧ ((n3 != (0 : Int)) = false → ((n4 != (-1 : Int)) = true → Q (AV.int .i64 (2 : Int)) []) ∧ ((n4 != (-1 : Int)) = false → ((!(n5 == (0 : Int) && (n6 == (0 : Int) && true) && (n7 == (0 : Int) && (n8 == (0 : Int) && true) && (n9 == (0 : Int) && (n10 == (0 : Int) && true) && true)))) = true → Q (AV.int .i64 (2 : Int)) []) ∧ ((!(n5 == (0 : Int) && (n6 == (0 : Int) && true) && (n7 == (0 : Int) && (n8 == (0 : Int) && true) && (n9 == (0 : Int) && (n10 == (0 : Int) && true) && true)))) = false → Q (AV.int .i64 (0 : Int)) [])))))) ∧ ((i == (0 : Int)) = false → ∃ b25, S (55 : Nat) [AV.int .i64 n1, AV.int .i64 (0 : Int), AV.int .i64 (IntKind.i64.wrap (i - (1 : Int)))] [] (AV.bool b25) [] ∧ ((!b25) = true → Q (AV.int .i64 (4 : Int)) []) ∧ ((!b25) = false → ∃ b29, S (55 : Nat) [AV.int .i64 n2, AV.int .i64 (0 : Int), AV.int .i64 (IntKind.i64.wrap ((↑(List.map TFeCable.av f.Cables).length : Int) - (1 : Int)))] [] (AV.bool b29) [] ∧ ((!b29) = true → Q (AV.int .i64 (4 : Int)) []) ∧ ((!b29) = false → ∃ b33, S (55 : Nat) [AV.int .i64 n4, AV.int .i64 (-1 : Int), AV.int .i64 (IntKind.i64.wrap ((↑(List.map TFeFuse.av f.Fuses).length : Int) - (1 : Int)))] [] (AV.bool b33) [] ∧ ((!b33) = true → Q (AV.int .i64 (4 : Int)) []) ∧ ((!b33) = false → ∃ b37, S (55 : Nat) [AV.int .i64 n3, AV.int .i64 (1 : Int), AV.int .i64 (5000 : Int)] [] (AV.bool b37) [] ∧ ∃ (I39 : Nat → List AV → Prop), (∃ m41, I39 m41 [AV.bool b37, AV.int .i64 (0 : Int)]) ∧ ∀ (m41 : Nat) (b42 : Bool) (n43 : Int), I39 m41 [AV.bool b42, AV.int .i64 n43] → (decide (n43 < (3 : Int)) = true → (b42 = true → ((0 : Int) ≤ n43 ∧ n43 < (3 : Int)) ∧ (n43 = (2 : Int) → ∃ b52, S (54 : Nat) [AV.agg [AV.int .i64 n9, AV.int .i64 n10], AV.int .i64 (0 : Int), AV.int .i64 (1000000 : Int)] [] (AV.bool b52) [] ∧ f.cs = f.cs ∧ [AV.str s0, AV.int .i64 n1, AV.int .i64 n2, AV.int .i64 n3, AV.int .i64 n4, AV.int .i64 n5, AV.int .i64 n6, AV.int .i64 n7, AV.int .i64 n8, AV.int .i64 n9, AV.int .i64 n10] = [AV.str s0, AV.int .i64 n1, AV.int .i64 n2, AV.int .i64 n3, AV.int .i64 n4, AV.int .i64 n5, AV.int .i64 n6, AV.int .i64 n7, AV.int .i64 n8, AV.int .i64 n9, AV.int .i64 n10] ∧ ∃ k56, k56 < m41 ∧ I39 k56 [AV.bool b52, AV.int .i64 (IntKind.i64.wrap (n43 + (1 : Int)))]) ∧ (n43 = (1 : Int) → ∃ b53, S (54 : Nat) [AV.agg [AV.int .i64 n7, AV.int .i64 n8], AV.int .i64 (0 : Int), AV.int .i64 (1000000 : Int)] [] (AV.bool b53) [] ∧ f.cs = f.cs ∧ [AV.str s0, AV.int .i64 n1, AV.int .i64 n2, AV.int .i64 n3, AV.int .i64 n4, AV.int .i64 n5, AV.int .i64 n6, AV.int .i64 n7, AV.int .i64 n8, AV.int .i64 n9, AV.int .i64 n10] = [AV.str s0, AV.int .i64 n1, AV.int .i64 n2, AV.int .i64 n3, AV.int .i64 n4, AV.int .i64 n5, AV.int .i64 n6, AV.int .i64 n7, AV.int .i64 n8, AV.int .i64 n9, AV.int .i64 n10] ∧ ∃ k57, k57 < m41 ∧ I39 k57 [AV.bool b53, AV.int .i64 (IntKind.i64.wrap (n43 + (1 : Int)))]) ∧ (n43 = (0 : Int) → ∃ b54, S (54 : Nat) [AV.agg [AV.int .i64 n5, AV.int .i64 n6], AV.int .i64 (0 : Int), AV.int .i64 (1000000 : Int)] [] (AV.bool b54) [] ∧ f.cs = f.cs ∧ [AV.str s0, AV.int .i64 n1, AV.int .i64 n2, AV.int .i64 n3, AV.int .i64 n4, AV.int .i64 n5, AV.int .i64 n6, AV.int .i64 n7, AV.int .i64 n8, AV.int .i64 n9, AV.int .i64 n10] = [AV.str s0, AV.int .i64 n1, AV.int .i64 n2, AV.int .i64 n3, AV.int .i64 n4, AV.int .i64 n5, AV.int .i64 n6, AV.int .i64 n7, AV.int .i64 n8, AV.int .i64 n9, AV.int .i64 n10] ∧ ∃ k58, k58 < m41 ∧ I39 k58 [AV.bool b54, AV.int .i64 (IntKind.i64.wrap (n43 + (1 : Int)))]) ∧ True) ∧ (b42 = false → f.cs = f.cs ∧ [AV.str s0, AV.int .i64 n1, AV.int .i64 n2, AV.int .i64 n3, AV.int .i64 n4, AV.int .i64 n5, AV.int .i64 n6, AV.int .i64 n7, AV.int .i64 n8, AV.int .i64 n9, AV.int .i64 n10] = [AV.str s0, AV.int .i64 n1, AV.int .i64 n2, AV.int .i64 n3, AV.int .i64 n4, AV.int .i64 n5, AV.int .i64 n6, AV.int .i64 n7, AV.int .i64 n8, AV.int .i64 n9, AV.int .i64 n10] ∧ ∃ k51, k51 < m41 ∧ I39 k51 [AV.bool false, AV.int .i64 (IntKind.i64.wrap (n43 + (1 : Int)))])) ∧ (decide (n43 < (3 : Int)) = false → ((!b42) = true → Q (AV.int .i64 (7 : Int)) []) ∧ ((!b42) = false → Q (AV.int .i64 (0 : Int)) []))))))))
theorem r58 (f : TFeFeeder) (i : Int) (S : SpecF) (Fr : FuncId → List AV → Nat → List AV → Prop) (Sq : FuncId → List AV → List (List AV) → List (List AV) → Prop) (Q : AV → List (List AV) → Prop) : awpF Try.prog (mkS Try.prog S Fr Sq ⟨[], [], [], [], []⟩ 0) 0 ⟨[0, 1, 2, 4, 5, 6, 7, 8, 17, 20, 31, 33, 57, 83, 88, 100], [⟨5, [(6, .int .i64 0)], [], [], [], []⟩, ⟨17, [(7, .bool false), (8, .int .i64 0)], [], [], [], []⟩], [], []⟩ Try.f58 [f.av, .int .i64 i] [] Q = R58 f i S Fr Sq Q := by kernel_rfl
theorem s58 (f : TFeFeeder) (i : Int) (v : AV) (O : List (List AV)) (h : R58 f i (SpecOf Try.prog) (FreshOf Try.prog) (SeqOf Try.prog) (fun r O' => r = v ∧ O' = O)) : SpecOf Try.prog 58 [f.av, .int .i64 i] [] v O :=
  spec_by (boxes := []) mixed (by exact trivial) Try.func58 Try.call58 rfl rfl rfl (Nat.le_of_ble_eq_true rfl) (r58 f i (SpecOf Try.prog) (FreshOf Try.prog) (SeqOf Try.prog) _) h
theorem c58 (f : TFeFeeder) (i : Nat) (h1 : f.Cables.length ≤ 1000000) (h2 : f.Fuses.length ≤ 1000000) (hl : f.Nodes.length ≤ 1000000) (hi : i < f.Nodes.length) (hnm : ∀ x ∈ f.Nodes, x.Name.size ≤ 9223372036854775807) : Sp 58 [f.av, .int .i64 i] [] (.int .i64 (errAt TFeNode.Name (nodeS f.Cables.length f.Fuses.length) f.Nodes i)) [] := s58 f i _ _ (by
  unfold R58
  obtain ⟨x, hx, hx'⟩ := map_getN (f := TFeNode.av) hi
  have hat := errAt_some (nm := TFeNode.Name) (rest := nodeS f.Cables.length f.Fuses.length) hx
  refine ⟨x.Name, x.Parent, x.Cable, x.Length, x.Fuse, x.Loads0.Lo, x.Loads0.Hi, x.Loads1.Lo, x.Loads1.Hi, x.Loads2.Lo, x.Loads2.Hi, ⟨by omega, rfl, hx'⟩, _, c103 x.Name (hnm x (List.mem_of_getElem? hx)), fun h1 => ⟨?_, rfl⟩, fun g1 => ?_⟩
  · rw [hat, if_pos h1]
  have h1' : ¬ (!nameB x.Name) = true := by rw [g1]; simp
  refine ⟨fun m vs => ∃ k : Nat, k ≤ i ∧ m = i - k ∧ vs = [.int .i64 k] ∧ ((f.Nodes.take k).any fun y => twinB y.Name x.Name) = false, ⟨_, 0, by omega, rfl, rfl, rfl⟩, ?_⟩
  rintro m n ⟨k, hk, rfl, hv, ha⟩
  cases hv
  refine ⟨fun h2 => ?_, fun g2 => ?_⟩
  · have h2 : k < i := by simpa using h2
    obtain ⟨y, hy, hy'⟩ := map_getN (f := TFeNode.av) (l := f.Nodes) (k := k) (by omega)
    have hs := any_take (q := fun y : TFeNode => twinB y.Name x.Name) hy
    refine ⟨y.Name, y.Parent, y.Cable, y.Length, y.Fuse, y.Loads0.Lo, y.Loads0.Hi, y.Loads1.Lo, y.Loads1.Hi, y.Loads2.Lo, y.Loads2.Hi, ⟨by omega, rfl, hy'⟩, fun h3 => ⟨?_, rfl⟩, fun h3 => ?_⟩
    · have : ((f.Nodes.take i).any fun y => twinB y.Name x.Name) = true := List.any_eq_true.2 ⟨y, List.mem_of_getElem? (by rw [List.getElem?_take, if_pos h2]; exact hy), h3⟩
      rw [hat, if_neg h1', if_pos this]
    · repeat refine And.intro rfl ?_
      exact ⟨_, (by omega : i - (k + 1) < i - k), k + 1, by omega, rfl, by rw [wrapN (by omega)], by rw [hs, ha]; exact h3⟩
  · obtain rfl : k = i := by simp at g2; omega
    have he : errAt TFeNode.Name (nodeS f.Cables.length f.Fuses.length) f.Nodes k = nodeS f.Cables.length f.Fuses.length k x := by rw [hat, if_neg h1', if_neg (by rw [ha]; simp)]
    rw [he]
    simp only [List.length_map]
    refine ⟨fun h0 => ?_, fun h0 => ?_⟩
    · obtain rfl : k = 0 := by simp at h0; omega
      refine ⟨fun e1 => ⟨?_, trivial⟩, fun e1 => ⟨fun e2 => ⟨?_, trivial⟩, fun e2 => ⟨fun e3 => ⟨?_, trivial⟩, fun e3 => ⟨fun e4 => ⟨?_, trivial⟩, fun e4 => ⟨fun e5 => ⟨?_, trivial⟩, fun e5 => ⟨?_, trivial⟩⟩⟩⟩⟩⟩ <;> rw [nodeS, if_pos rfl] <;> first | (simp_all [blankB, zE]; done) | (simp_all [blankB, zE]; omega)
    · have hk0 : k ≠ 0 := by simp at h0; omega
      have e1 : IntKind.i64.wrap ((k : Int) - 1) = (k : Int) - 1 := i64 (by omega)
      have e2 : IntKind.i64.wrap ((f.Cables.length : Int) - 1) = (f.Cables.length : Int) - 1 := i64 (by omega)
      have e3 : IntKind.i64.wrap ((f.Fuses.length : Int) - 1) = (f.Fuses.length : Int) - 1 := i64 (by omega)
      rw [e1, e2, e3]
      have hn : nodeS f.Cables.length f.Fuses.length k x = if !(inB x.Parent 0 ((k : Int) - 1) && inB x.Cable 0 ((f.Cables.length : Int) - 1) && inB x.Fuse (-1) ((f.Fuses.length : Int) - 1)) then 4 else if !inB x.Length 1 5000 || [x.Loads0, x.Loads1, x.Loads2].any wildE then 7 else 0 := by rw [nodeS, if_neg hk0]
      rw [hn]
      refine ⟨_, c55 _ _ _, fun g1 => ⟨?_, trivial⟩, fun g1 => ⟨_, c55 _ _ _, fun g2 => ⟨?_, trivial⟩, fun g2 => ⟨_, c55 _ _ _, fun g3 => ⟨?_, trivial⟩, fun g3 => ⟨_, c55 _ _ _, ?_⟩⟩⟩⟩
      · rw [if_pos (by simp_all)]
      · rw [if_pos (by simp_all)]
      · rw [if_pos (by simp_all)]
      have hok : ¬ (!(inB x.Parent 0 ((k : Int) - 1) && inB x.Cable 0 ((f.Cables.length : Int) - 1) && inB x.Fuse (-1) ((f.Fuses.length : Int) - 1))) = true := by simp_all
      rw [if_neg hok]
      refine ⟨fun m vs => ∃ j : Nat, j ≤ 3 ∧ m = 3 - j ∧ vs = [.bool (inB x.Length 1 5000 && !([x.Loads0, x.Loads1, x.Loads2].take j).any wildE), .int .i64 j], ⟨_, 0, by omega, rfl, by simp⟩, ?_⟩
      rintro m b n ⟨j, hj, rfl, hv⟩
      cases hv
      refine ⟨fun h4 => ?_, fun h4 => ?_⟩
      · have h4 : j < 3 := by simp at h4; omega
        have hw : IntKind.i64.wrap ((j : Int) + 1) = ((j + 1 : Nat) : Int) := wrapN (by omega)
        rw [hw]
        have fin : ∀ b : Bool, b = (inB x.Length 1 5000 && !([x.Loads0, x.Loads1, x.Loads2].take (j + 1)).any wildE) → ∃ m', m' < 3 - j ∧ ∃ j' : Nat, j' ≤ 3 ∧ m' = 3 - j' ∧ [AV.bool b, .int .i64 ((j + 1 : Nat) : Int)] = [.bool (inB x.Length 1 5000 && !([x.Loads0, x.Loads1, x.Loads2].take j').any wildE), .int .i64 j'] := fun b hb =>
          ⟨_, (by omega : 3 - (j + 1) < 3 - j), j + 1, by omega, rfl, by rw [hb]⟩
        refine ⟨fun q1 => ⟨⟨by omega, by omega⟩, fun q2 => ⟨_, c54 x.Loads2 _ _, ?_⟩, fun q2 => ⟨_, c54 x.Loads1 _ _, ?_⟩, fun q2 => ⟨_, c54 x.Loads0 _ _, ?_⟩, trivial⟩, fun q1 => ?_⟩
        · obtain rfl : j = 2 := by omega
          have hh : wiB x.Loads2 0 1000000 = (inB x.Length 1 5000 && !([x.Loads0, x.Loads1, x.Loads2].take (2 + 1)).any wildE) := by
            simp only [Bool.and_eq_true, Bool.not_eq_true'] at q1
            rw [q1.1]
            have q := q1.2
            simp [wildE] at q ⊢
            try simp [q]
          first | exact fin _ hh | exact ⟨trivial, fin _ hh⟩ | exact ⟨trivial, trivial, fin _ hh⟩ | exact ⟨trivial, trivial, trivial, fin _ hh⟩
        · obtain rfl : j = 1 := by omega
          have hh : wiB x.Loads1 0 1000000 = (inB x.Length 1 5000 && !([x.Loads0, x.Loads1, x.Loads2].take (1 + 1)).any wildE) := by
            simp only [Bool.and_eq_true, Bool.not_eq_true'] at q1
            rw [q1.1]
            have q := q1.2
            simp [wildE] at q ⊢
            try simp [q]
          first | exact fin _ hh | exact ⟨trivial, fin _ hh⟩ | exact ⟨trivial, trivial, fin _ hh⟩ | exact ⟨trivial, trivial, trivial, fin _ hh⟩
        · obtain rfl : j = 0 := by omega
          have hh : wiB x.Loads0 0 1000000 = (inB x.Length 1 5000 && !([x.Loads0, x.Loads1, x.Loads2].take (0 + 1)).any wildE) := by
            simp only [Bool.and_eq_true, Bool.not_eq_true'] at q1
            rw [q1.1]
            have q := q1.2
            simp [wildE] at q ⊢
            try simp [q]
          first | exact fin _ hh | exact ⟨trivial, fin _ hh⟩ | exact ⟨trivial, trivial, fin _ hh⟩ | exact ⟨trivial, trivial, trivial, fin _ hh⟩
        · have hh : false = (inB x.Length 1 5000 && !([x.Loads0, x.Loads1, x.Loads2].take (j + 1)).any wildE) := by
           cases hr : inB x.Length 1 5000
           · rfl
           · rw [hr] at q1
             have hat : ([x.Loads0, x.Loads1, x.Loads2].take j).any wildE = true := by simpa using q1
             obtain ⟨y, hy, hyw⟩ := List.any_eq_true.1 hat
             have : ([x.Loads0, x.Loads1, x.Loads2].take (j + 1)).any wildE = true := List.any_eq_true.2 ⟨y, List.take_subset_take_left _ (Nat.le_succ j) hy, hyw⟩
             rw [this]; rfl
          first | exact fin _ hh | exact ⟨trivial, fin _ hh⟩ | exact ⟨trivial, trivial, fin _ hh⟩ | exact ⟨trivial, trivial, trivial, fin _ hh⟩
      · obtain rfl : j = 3 := by simp at h4; omega
        have e : [x.Loads0, x.Loads1, x.Loads2].take 3 = [x.Loads0, x.Loads1, x.Loads2] := rfl
        rw [e]
        cases inB x.Length 1 5000 <;> cases [x.Loads0, x.Loads1, x.Loads2].any wildE <;> simp)
end Go.Proofs.Ytbdbnpnichkcjaa
namespace Go.Proofs.Ytbdbnpnichkcjaa
open Go.RowKit
/-- The rest of a loop that looks for the first error. -/
def restE (e : Nat → Int) (n k : Nat) : Int × Int := firstE e (n - k) k
theorem restE_at {e : Nat → Int} {n k : Nat} (h : k < n) : restE e n k = if e k ≠ 0 then ((k : Int), e k) else restE e n (k + 1) := firstE_at h
theorem restE_end {e : Nat → Int} {n : Nat} : restE e n n = (0, 0) := by unfold restE; rw [Nat.sub_self]; rfl
def R16 (f : TFeFeeder) (S : SpecF) (_Fr : FuncId → List AV → Nat → List AV → Prop) (_Sq : FuncId → List AV → List (List AV) → List (List AV) → Prop) (Q : AV → List (List AV) → Prop) : Prop :=
  (decide ((↑(List.map TFeCable.av f.Cables).length : Int) > (10 : Int)) = true → Q (AV.tup [AV.int .i64 (0 : Int), AV.int .i64 (0 : Int), AV.int .i64 (3 : Int)]) []) ∧ (decide ((↑(List.map TFeCable.av f.Cables).length : Int) > (10 : Int)) = false → (decide ((↑(List.map TFeFuse.av f.Fuses).length : Int) > (10 : Int)) = true → Q (AV.tup [AV.int .i64 (0 : Int), AV.int .i64 (0 : Int), AV.int .i64 (3 : Int)]) []) ∧ (decide ((↑(List.map TFeFuse.av f.Fuses).length : Int) > (10 : Int)) = false → (decide ((↑(List.map TFeNode.av f.Nodes).length : Int) > (40 : Int)) = true → Q (AV.tup [AV.int .i64 (0 : Int), AV.int .i64 (0 : Int), AV.int .i64 (3 : Int)]) []) ∧ (decide ((↑(List.map TFeNode.av f.Nodes).length : Int) > (40 : Int)) = false → (((↑(List.map TFeNode.av f.Nodes).length : Int) == (0 : Int)) = true → Q (AV.tup [AV.int .i64 (0 : Int), AV.int .i64 (0 : Int), AV.int .i64 (4 : Int)]) []) ∧ (((↑(List.map TFeNode.av f.Nodes).length : Int) == (0 : Int)) = false → ∃ b8, S (54 : Nat) [f.Volts.av, AV.int .i64 (1 : Int), AV.int .i64 (1000000 : Int)] [] (AV.bool b8) [] ∧ ((!b8) = true → Q (AV.tup [AV.int .i64 (0 : Int), AV.int .i64 (0 : Int), AV.int .i64 (7 : Int)]) []) ∧ ((!b8) = false → ∃ b12, S (54 : Nat) [f.Source.av, AV.int .i64 (1 : Int), AV.int .i64 (1000000000 : Int)] [] (AV.bool b12) [] ∧ ((!b12) = true → Q (AV.tup [AV.int .i64 (0 : Int), AV.int .i64 (0 : Int), AV.int .i64 (7 : Int)]) []) ∧ ((!b12) = false → ∃ b16, S (55 : Nat) [AV.int .i64 f.Drop, AV.int .i64 (0 : Int), AV.int .i64 (1000000 : Int)] [] (AV.bool b16) [] ∧ ((!b16) = true → Q (AV.tup [AV.int .i64 (0 : Int), AV.int .i64 (0 : Int), AV.int .i64 (7 : Int)]) []) ∧ ((!b16) = false → ∃ b20, S (55 : Nat) [AV.int .i64 f.Limit, AV.int .i64 (1 : Int), AV.int .i64 (100000000 : Int)] [] (AV.bool b20) [] ∧ ((!b20) = true → Q (AV.tup [AV.int .i64 (0 : Int), AV.int .i64 (0 : Int), AV.int .i64 (7 : Int)]) []) ∧ ((!b20) = false → ∃ (I24 : Nat → List AV → Prop), (∃ m26, I24 m26 [AV.int .i64 (0 : Int)]) ∧ ∀ (m26 : Nat) (n27 : Int), I24 m26 [AV.int .i64 n27] → (decide (n27 < (↑(List.map TFeCable.av f.Cables).length : Int)) = true → ∃ n31, S (56 : Nat) [f.av, AV.int .i64 n27] [] (AV.int .i64 n31) [] ∧ ((n31 != (0 : Int)) = true → Q (AV.tup [AV.int .i64 (1 : Int), AV.int .i64 n27, AV.int .i64 n31]) []) ∧ ((n31 != (0 : Int)) = false → f.cs = f.cs ∧ ∃ k36, k36 < m26 ∧ I24 k36 [AV.int .i64 (IntKind.i64.wrap (n27 + (1 : Int)))])) ∧ (decide (n27 < (↑(List.map TFeCable.av f.Cables).length : Int)) = false → ∃ (I31 : Nat → List AV → Prop), (∃ m33, I31 m33 [AV.int .i64 (0 : Int)]) ∧ ∀ (m33 : Nat) (n34 : Int), I31 m33 [AV.int .i64 n34] → (decide (n34 < (↑(List.map TFeFuse.av f.Fuses).length : Int)) = true → ∃ n38, S (57 : Nat) [f.av, AV.int .i64 n34] [] (AV.int .i64 n38) [] ∧ ((n38 != (0 : Int)) = true → Q (AV.tup [AV.int .i64 (2 : Int), AV.int .i64 n34, AV.int .i64 n38]) []) ∧ ((n38 != (0 : Int)) = false → f.cs = f.cs ∧ ∃ k43, k43 < m33 ∧ I31 k43 [AV.int .i64 (IntKind.i64.wrap (n34 + (1 : Int)))])) ∧ (decide (n34 < (↑(List.map TFeFuse.av f.Fuses).length : Int)) = false → ∃ (I38 : Nat → List AV → Prop), (∃ m40, I38 m40 [AV.int .i64 (0 : Int)]) ∧ ∀ (m40 : Nat) (n41 : Int), I38 m40 [AV.int .i64 n41] → (decide (n41 < (↑(List.map TFeNode.av f.Nodes).length : Int)) = true → ∃ n45, S (58 : Nat) [f.av, AV.int .i64 n41] [] (AV.int .i64 n45) [] ∧ ((n45 != (0 : Int)) = true → Q (AV.tup [AV.int .i64 (3 : Int), AV.int .i64 n41, AV.int .i64 n45]) []) ∧ ((n45 != (0 : Int)) = false → f.cs = f.cs ∧ ∃ k50, k50 < m40 ∧ I38 k50 [AV.int .i64 (IntKind.i64.wrap (n41 + (1 : Int)))])) ∧ (decide (n41 < (↑(List.map TFeNode.av f.Nodes).length : Int)) = false → Q (AV.tup TFeFault.zero.cs) [])))))))))))
theorem r16 (f : TFeFeeder) (S : SpecF) (Fr : FuncId → List AV → Nat → List AV → Prop) (Sq : FuncId → List AV → List (List AV) → List (List AV) → Prop) (Q : AV → List (List AV) → Prop) : awpF Try.prog (mkS Try.prog S Fr Sq ⟨[], [], [], [], []⟩ 0) 0 ⟨[0, 1, 2, 3, 4, 5, 6, 7, 8, 9, 10, 26, 30, 52, 57, 64, 71, 78, 85, 92], [⟨8, [(5, .int .i64 0)], [], [], [], []⟩, ⟨14, [(7, .int .i64 0)], [], [], [], []⟩, ⟨20, [(9, .int .i64 0)], [], [], [], []⟩], [], []⟩ Try.f16 [f.av] [] Q = R16 f S Fr Sq Q := by kernel_rfl
theorem s16 (f : TFeFeeder) (v : AV) (O : List (List AV)) (h : R16 f (SpecOf Try.prog) (FreshOf Try.prog) (SeqOf Try.prog) (fun r O' => r = v ∧ O' = O)) : SpecOf Try.prog 16 [f.av] [] v O :=
  spec_by (boxes := []) mixed (by exact trivial) Try.func16 Try.call16 rfl rfl rfl (Nat.le_of_ble_eq_true rfl) (r16 f (SpecOf Try.prog) (FreshOf Try.prog) (SeqOf Try.prog) _) h
theorem c16 (f : TFeFeeder) (hn : NOK f) : Sp 16 [f.av] [] (tup3 (checkF f)) [] := s16 f _ _ (by
  unfold R16
  simp only [List.length_map]
  refine ⟨fun h1 => ⟨?_, trivial⟩, fun h1 => ⟨fun h2 => ⟨?_, trivial⟩, fun h2 => ⟨fun h3 => ⟨?_, trivial⟩, fun h3 => ?_⟩⟩⟩
  · rw [checkF, if_pos (.inl (by simp at h1; omega))]; rfl
  · rw [checkF, if_pos (.inr (.inl (by simp at h2; omega)))]; rfl
  · rw [checkF, if_pos (.inr (.inr (by simp at h3; omega)))]; rfl
  have h1 : f.Cables.length ≤ 10 := by simp at h1; omega
  have h2 : f.Fuses.length ≤ 10 := by simp at h2; omega
  have h3 : f.Nodes.length ≤ 40 := by simp at h3; omega
  have hl : ¬ (10 < f.Cables.length ∨ 10 < f.Fuses.length ∨ 40 < f.Nodes.length) := by omega
  refine ⟨fun h4 => ⟨?_, trivial⟩, fun h4 => ?_⟩
  · rw [checkF, if_neg hl, if_pos (by simp at h4; simp [h4])]; rfl
  have h4 : ¬ f.Nodes.length = 0 := by simp at h4; simp [h4]
  refine ⟨_, c54 _ _ _, fun h5 => ⟨?_, trivial⟩, fun h5 => ⟨_, c54 _ _ _, fun h6 => ⟨?_, trivial⟩, fun h6 => ⟨_, c55 _ _ _, fun h7 => ⟨?_, trivial⟩, fun h7 => ⟨_, c55 _ _ _, fun h8 => ⟨?_, trivial⟩, fun h8 => ?_⟩⟩⟩⟩
  · rw [checkF, if_neg hl, if_neg h4, if_pos (by simp_all)]; rfl
  · rw [checkF, if_neg hl, if_neg h4, if_pos (by simp_all)]; rfl
  · rw [checkF, if_neg hl, if_neg h4, if_pos (by simp_all)]; rfl
  · rw [checkF, if_neg hl, if_neg h4, if_pos (by simp_all)]; rfl
  have h9 : ¬ (!(wiB f.Volts 1 1000000 && wiB f.Source 1 1000000000 && inB f.Drop 0 1000000 && inB f.Limit 1 100000000)) = true := by simp_all
  obtain ⟨n1, n2, n3⟩ := hn
  let eA := errAt TFeCable.Name cableS f.Cables
  let eB := errAt TFeFuse.Name curveS f.Fuses
  let eC := errAt TFeNode.Name (nodeS f.Cables.length f.Fuses.length) f.Nodes
  have hc : checkF f = if (restE eA f.Cables.length 0).2 ≠ 0 then (1, (restE eA f.Cables.length 0).1, (restE eA f.Cables.length 0).2) else if (restE eB f.Fuses.length 0).2 ≠ 0 then (2, (restE eB f.Fuses.length 0).1, (restE eB f.Fuses.length 0).2)
      else if (restE eC f.Nodes.length 0).2 ≠ 0 then (3, (restE eC f.Nodes.length 0).1, (restE eC f.Nodes.length 0).2) else (0, 0, 0) := by rw [checkF, if_neg hl, if_neg h4, if_neg h9]; rfl
  rw [hc]
  refine ⟨fun m vs => ∃ k : Nat, k ≤ f.Cables.length ∧ m = f.Cables.length - k ∧ vs = [.int .i64 k] ∧ restE eA f.Cables.length k = restE eA f.Cables.length 0, ⟨_, 0, by omega, rfl, rfl, rfl⟩, ?_⟩
  rintro m n ⟨k, hk, rfl, hv, ha⟩
  cases hv
  refine ⟨fun g => ?_, fun g => ?_⟩
  · have g : k < f.Cables.length := by simpa using g
    have hat := restE_at (e := eA) g
    refine ⟨_, c56 f k (by omega) g n1, fun q => ⟨?_, trivial⟩, fun q => ?_⟩
    · have q : eA k ≠ 0 := by simpa using q
      rw [← ha, hat, if_pos q, if_pos q]; rfl
    · have q : ¬ eA k ≠ 0 := by simpa using q
      repeat refine And.intro trivial ?_
      exact ⟨_, (by omega : f.Cables.length - (k + 1) < f.Cables.length - k), k + 1, by omega, rfl, by rw [wrapN (by omega)], by rw [← ha, hat, if_neg q]⟩
  have g : k = f.Cables.length := by simp at g; omega
  subst g
  rw [restE_end] at ha
  rw [← ha, if_neg (by simp)]
  refine ⟨fun m vs => ∃ k : Nat, k ≤ f.Fuses.length ∧ m = f.Fuses.length - k ∧ vs = [.int .i64 k] ∧ restE eB f.Fuses.length k = restE eB f.Fuses.length 0, ⟨_, 0, by omega, rfl, rfl, rfl⟩, ?_⟩
  rintro m n ⟨k, hk, rfl, hv, hb⟩
  cases hv
  refine ⟨fun g => ?_, fun g => ?_⟩
  · have g : k < f.Fuses.length := by simpa using g
    have hat := restE_at (e := eB) g
    refine ⟨_, c57 f k (by omega) g n2, fun q => ⟨?_, trivial⟩, fun q => ?_⟩
    · have q : eB k ≠ 0 := by simpa using q
      rw [← hb, hat, if_pos q, if_pos q]; rfl
    · have q : ¬ eB k ≠ 0 := by simpa using q
      repeat refine And.intro trivial ?_
      exact ⟨_, (by omega : f.Fuses.length - (k + 1) < f.Fuses.length - k), k + 1, by omega, rfl, by rw [wrapN (by omega)], by rw [← hb, hat, if_neg q]⟩
  have g : k = f.Fuses.length := by simp at g; omega
  subst g
  rw [restE_end] at hb
  rw [← hb, if_neg (by simp)]
  refine ⟨fun m vs => ∃ k : Nat, k ≤ f.Nodes.length ∧ m = f.Nodes.length - k ∧ vs = [.int .i64 k] ∧ restE eC f.Nodes.length k = restE eC f.Nodes.length 0, ⟨_, 0, by omega, rfl, rfl, rfl⟩, ?_⟩
  rintro m n ⟨k, hk, rfl, hv, hd⟩
  cases hv
  refine ⟨fun g => ?_, fun g => ?_⟩
  · have g : k < f.Nodes.length := by simpa using g
    have hat := restE_at (e := eC) g
    refine ⟨_, c58 f k (by omega) (by omega) (by omega) g n3, fun q => ⟨?_, trivial⟩, fun q => ?_⟩
    · have q : eC k ≠ 0 := by simpa using q
      rw [← hd, hat, if_pos q, if_pos q]; rfl
    · have q : ¬ eC k ≠ 0 := by simpa using q
      repeat refine And.intro trivial ?_
      exact ⟨_, (by omega : f.Nodes.length - (k + 1) < f.Nodes.length - k), k + 1, by omega, rfl, by rw [wrapN (by omega)], by rw [← hd, hat, if_neg q]⟩
  have g : k = f.Nodes.length := by simp at g; omega
  subst g
  rw [restE_end] at hd
  rw [← hd, if_neg (by simp)]
  exact ⟨rfl, trivial⟩)
end Go.Proofs.Ytbdbnpnichkcjaa
namespace Go.Proofs.Ytbdbnpnichkcjaa
open Go.RowKit
def nI (i : Nat) : AV := .int .i64 (i : Nat)
theorem flatN (l : List Nat) : (l.map nI).flatMap AV.cells = l.map nI ∧ ones (l.map nI) = true := by
  induction l with
  | nil => exact ⟨rfl, rfl⟩
  | cons x r ih =>
    refine ⟨by simp only [List.map_cons, List.flatMap_cons, ih.1]; rfl, ?_⟩
    have := ih.2
    simp only [ones, List.map_cons, List.all_cons, Bool.and_eq_true] at this ⊢
    exact ⟨rfl, this⟩
theorem agg3' : isAggT Try.prog 3 = false := by kernel_rfl
def R90 (f : TFeFeeder) (node : Int) (_S : SpecF) (_Fr : FuncId → List AV → Nat → List AV → Prop) (_Sq : FuncId → List AV → List (List AV) → List (List AV) → Prop) (Q : AV → List (List AV) → Prop) : Prop :=
  ∃ (I0 : Nat → List AV → Prop), (∃ m2, I0 m2 [AV.int .i64 node, AV.slc (3 : Nat) []]) ∧ ∀ (m2 : Nat) (n3 : Int) (es4 : List AV), I0 m2 [AV.int .i64 n3, AV.slc (3 : Nat) es4] → (decide (n3 > (0 : Int)) = true → ((1 : Nat) = (1 : Nat) ∧ (0 : Nat) + es4.length * (1 : Nat) ≤ (List.flatMap AV.cells es4).length) ∧ ((1 : Nat) = (1 : Nat) ∧ ((1 : Nat) + es4.length + (512 : Nat)) * (41 : Nat) ≤ (1125899906842624 : Nat) ∧ ones (List.take (es4.length * (1 : Nat)) (List.drop (0 : Nat) (List.flatMap AV.cells es4))) = true ∧ ones [AV.int .i64 n3] = true) ∧ ∃ s10 n11 n12 n13 n14 n15 n16 n17 n18 n19 n20, ((0 : Int) ≤ n3 ∧ (11 : Nat) = (11 : Nat) ∧ (List.map TFeNode.av f.Nodes)[n3.toNat]? = some (AV.agg [AV.str s10, AV.int .i64 n11, AV.int .i64 n12, AV.int .i64 n13, AV.int .i64 n14, AV.int .i64 n15, AV.int .i64 n16, AV.int .i64 n17, AV.int .i64 n18, AV.int .i64 n19, AV.int .i64 n20])) ∧ f.cs = f.cs ∧ ∃ es23, (es23.length = (1 : Nat) + es4.length ∧ List.flatMap AV.cells es23 = AV.int .i64 n3 :: (List.take (es4.length * (1 : Nat)) (List.drop (0 : Nat) (List.flatMap AV.cells es4)))) ∧ ∃ k25, k25 < m2 ∧ I0 k25 [AV.int .i64 n11, AV.slc (3 : Nat) es23]) ∧ (decide (n3 > (0 : Int)) = false → ((0 : Nat) + es4.length * (1 : Nat) ≤ (List.flatMap AV.cells es4).length ∧ ones (List.flatMap AV.cells es4) = true) ∧ Q (AV.slc (3 : Nat) (chunks (1 : Nat) (isAggT Try.prog (3 : Nat)) es4.length (List.drop (0 : Nat) (List.flatMap AV.cells es4)))) [])
theorem r90 (f : TFeFeeder) (node : Int) (S : SpecF) (Fr : FuncId → List AV → Nat → List AV → Prop) (Sq : FuncId → List AV → List (List AV) → List (List AV) → Prop) (Q : AV → List (List AV) → Prop) : awpF Try.prog (mkS Try.prog S Fr Sq ⟨[], [], [], [], [9]⟩ 0) 0 ⟨[0, 1, 2, 4, 5, 7], [⟨2, [(1, .int .i64 0)], [(5, 3)], [], [], []⟩], [], []⟩ Try.f90 [f.av, .int .i64 node] [] Q = R90 f node S Fr Sq Q := by kernel_rfl
theorem s90 (f : TFeFeeder) (node : Int) (v : AV) (O : List (List AV)) (h : R90 f node (SpecOf Try.prog) (FreshOf Try.prog) (SeqOf Try.prog) (fun r O' => r = v ∧ O' = O)) : SpecOf Try.prog 90 [f.av, .int .i64 node] [] v O :=
  spec_by (boxes := []) mixed (by exact trivial) Try.func90 Try.call90 rfl rfl rfl (Nat.le_of_ble_eq_true rfl) (r90 f node (SpecOf Try.prog) (FreshOf Try.prog) (SeqOf Try.prog) _) h
theorem c90 {f : TFeFeeder} (hf : OK f) (node : Nat) (h : node < f.Nodes.length) : Sp 90 [f.av, .int .i64 node] [] (.slc 3 ((upL f node).reverse.map nI)) [] := s90 f node _ _ (by
  unfold R90
  have hul := upL_len hf h
  have hnn := hf.nn
  refine ⟨fun m vs => ∃ (k : Nat) (acc : List Nat), k = m ∧ vs = [.int .i64 k, .slc 3 (acc.map nI)] ∧ k < f.Nodes.length ∧ (upL f k).reverse ++ acc = (upL f node).reverse, ⟨_, node, [], rfl, rfl, h, by simp⟩, ?_⟩
  rintro m n es ⟨k, acc, rfl, hv, hlt, ha⟩
  cases hv
  have hal : acc.length ≤ 40 := by
    have := congrArg List.length ha
    rw [List.length_append, List.length_reverse, List.length_reverse] at this; omega
  obtain ⟨f1, f2⟩ := flatN acc
  refine ⟨fun g => ?_, fun g => ?_⟩
  · have h0 : k ≠ 0 := by simp at g; omega
    have hp := par_lt hf hlt h0
    have e : List.take ((acc.map nI).length * 1) (List.drop 0 ((acc.map nI).flatMap AV.cells)) = acc.map nI := by
      rw [f1, List.drop_zero]; exact List.take_of_length_le (by omega)
    refine ⟨⟨rfl, by rw [f1]; omega⟩, ⟨rfl, by rw [List.length_map]; omega, by rw [e]; exact f2, rfl⟩, (nd f k).Name, (nd f k).Parent, (nd f k).Cable, (nd f k).Length, (nd f k).Fuse, (nd f k).Loads0.Lo, (nd f k).Loads0.Hi, (nd f k).Loads1.Lo, (nd f k).Loads1.Hi, (nd f k).Loads2.Lo, (nd f k).Loads2.Hi, ⟨by omega, rfl, nd_av hlt⟩, rfl, (k :: acc).map nI, ⟨by simp; omega, ?_⟩, par f k, hp.1, par f k, k :: acc, rfl, by rw [hp.2], by omega, ?_⟩
    · rw [(flatN (k :: acc)).1]
      first | (rw [e]; rfl) | (show nI k :: acc.map nI = _; rw [← e]; rfl)
    · rw [← ha, upL_succ hf hlt h0, List.reverse_cons, List.append_assoc]; rfl
  · have h0 : k = 0 := by simp at g; omega
    subst h0
    rw [upL_zero] at ha
    have ha : acc = (upL f node).reverse := by simpa using ha
    subst ha
    refine ⟨⟨by rw [f1]; omega, by rw [f1]; exact f2⟩, ?_, rfl⟩
    rw [f1, agg3']; simp only [chunks, List.drop_zero]; rw [if_neg (by simp), List.take_length])
theorem anc_rev {f : TFeFeeder} {a i : Nat} : anc f a i = (upL f i).reverse.contains a := by
  unfold anc; rw [Bool.eq_iff_iff, List.contains_iff_mem, List.contains_iff_mem, List.mem_reverse]
def R88 (f : TFeFeeder) (node : Int) (to : Int) (S : SpecF) (_Fr : FuncId → List AV → Nat → List AV → Prop) (_Sq : FuncId → List AV → List (List AV) → List (List AV) → Prop) (Q : AV → List (List AV) → Prop) : Prop :=
  ∃ es0, S (90 : Nat) [f.av, AV.int .i64 to] [] (AV.slc (3 : Nat) es0) [] ∧ ∃ (I2 : Nat → List AV → Prop), (∃ m4, I2 m4 [AV.int .i64 (0 : Int)]) ∧ ∀ (m4 : Nat) (n5 : Int), I2 m4 [AV.int .i64 n5] → (decide (n5 < (↑es0.length : Int)) = true → ∃ n9, ((0 : Int) ≤ n5 ∧ (1 : Nat) = (1 : Nat) ∧ es0[n5.toNat]? = some (AV.int .i64 n9)) ∧ ((n9 == node) = true → Q (AV.bool true) []) ∧ ((n9 == node) = false → f.cs = f.cs ∧ ∃ k14, k14 < m4 ∧ I2 k14 [AV.int .i64 (IntKind.i64.wrap (n5 + (1 : Int)))])) ∧ (decide (n5 < (↑es0.length : Int)) = false → Q (AV.bool false) [])
theorem r88 (f : TFeFeeder) (node : Int) (to : Int) (S : SpecF) (Fr : FuncId → List AV → Nat → List AV → Prop) (Sq : FuncId → List AV → List (List AV) → List (List AV) → Prop) (Q : AV → List (List AV) → Prop) : awpF Try.prog (mkS Try.prog S Fr Sq ⟨[], [], [90], [], []⟩ 0) 0 ⟨[0, 1, 2, 3, 6, 7, 8, 15, 23], [⟨3, [(8, .int .i64 0)], [], [], [], []⟩], [], []⟩ Try.f88 [f.av, .int .i64 node, .int .i64 to] [] Q = R88 f node to S Fr Sq Q := by kernel_rfl
theorem s88 (f : TFeFeeder) (node : Int) (to : Int) (v : AV) (O : List (List AV)) (h : R88 f node to (SpecOf Try.prog) (FreshOf Try.prog) (SeqOf Try.prog) (fun r O' => r = v ∧ O' = O)) : SpecOf Try.prog 88 [f.av, .int .i64 node, .int .i64 to] [] v O :=
  spec_by (boxes := []) mixed (by exact trivial) Try.func88 Try.call88 rfl rfl rfl (Nat.le_of_ble_eq_true rfl) (r88 f node to (SpecOf Try.prog) (FreshOf Try.prog) (SeqOf Try.prog) _) h
theorem c88 {f : TFeFeeder} (hf : OK f) (a i : Nat) (h : i < f.Nodes.length) : Sp 88 [f.av, .int .i64 a, .int .i64 i] [] (.bool (anc f a i)) [] := s88 f a i _ _ (by
  unfold R88
  have hul := upL_len hf h
  have hnn := hf.nn
  rw [anc_rev]
  refine ⟨_, c90 hf i h, ?_⟩
  have hl : (upL f i).reverse.length ≤ 40 := by rw [List.length_reverse]; omega
  generalize (upL f i).reverse = L at hl
  simp only [List.length_map]
  refine ⟨fun m vs => ∃ k : Nat, k ≤ L.length ∧ m = L.length - k ∧ vs = [.int .i64 k] ∧ (L.take k).contains a = false, ⟨_, 0, by omega, rfl, rfl, rfl⟩, ?_⟩
  rintro m n ⟨k, hk, rfl, hv, hc⟩
  cases hv
  refine ⟨fun g => ?_, fun g => ⟨?_, trivial⟩⟩
  · have g : k < L.length := by simpa using g
    obtain ⟨x, hx, hx'⟩ := map_getN (f := nI) g
    refine ⟨x, ⟨by omega, trivial, hx'⟩, fun q => ⟨?_, trivial⟩, fun q => ?_⟩
    · have : a = x := by simp at q; omega
      subst this
      rw [List.contains_iff_mem.2 (List.mem_of_getElem? hx)]
    · have hne : ¬ a = x := by simp at q; omega
      have : (L.take (k + 1)).contains a = false := by
        rw [List.take_add_one, hx]; simp only [Option.toList]
        rw [Bool.eq_false_iff, Ne, List.contains_iff_mem, List.mem_append]
        rw [Bool.eq_false_iff, Ne, List.contains_iff_mem] at hc
        simp; exact ⟨hc, hne⟩
      first
        | exact ⟨_, (by omega : L.length - (k + 1) < L.length - k), k + 1, by omega, rfl, by rw [wrapN (by omega)], this⟩
        | exact ⟨trivial, _, (by omega : L.length - (k + 1) < L.length - k), k + 1, by omega, rfl, by rw [wrapN (by omega)], this⟩
  · have : k = L.length := by simp at g; omega
    subst this
    rw [List.take_length] at hc; rw [hc])
def R119 (n : Int) (_S : SpecF) (_Fr : FuncId → List AV → Nat → List AV → Prop) (_Sq : FuncId → List AV → List (List AV) → List (List AV) → Prop) (Q : AV → List (List AV) → Prop) : Prop :=
  ∃ (I0 : Nat → List AV → Prop), (∃ m2, I0 m2 [AV.int .i64 (-1 : Int), AV.int .i64 (2000000000 : Int)]) ∧ ∀ (m2 : Nat) (n3 n4 : Int), I0 m2 [AV.int .i64 n3, AV.int .i64 n4] → (decide (IntKind.i64.wrap (n4 - n3) > (1 : Int)) = true → (decide (IntKind.i64.wrap (IntKind.i64.wrap ((IntKind.i64.wrap (n3 + n4)).tdiv (2 : Int)) * IntKind.i64.wrap ((IntKind.i64.wrap (n3 + n4)).tdiv (2 : Int))) ≥ n) = true → ∃ k10, k10 < m2 ∧ I0 k10 [AV.int .i64 n3, AV.int .i64 (IntKind.i64.wrap ((IntKind.i64.wrap (n3 + n4)).tdiv (2 : Int)))]) ∧ (decide (IntKind.i64.wrap (IntKind.i64.wrap ((IntKind.i64.wrap (n3 + n4)).tdiv (2 : Int)) * IntKind.i64.wrap ((IntKind.i64.wrap (n3 + n4)).tdiv (2 : Int))) ≥ n) = false → ∃ k10, k10 < m2 ∧ I0 k10 [AV.int .i64 (IntKind.i64.wrap ((IntKind.i64.wrap (n3 + n4)).tdiv (2 : Int))), AV.int .i64 n4])) ∧ (decide (IntKind.i64.wrap (n4 - n3) > (1 : Int)) = false → Q (AV.int .i64 n4) [])
theorem r119 (n : Int) (S : SpecF) (Fr : FuncId → List AV → Nat → List AV → Prop) (Sq : FuncId → List AV → List (List AV) → List (List AV) → Prop) (Q : AV → List (List AV) → Prop) : awpF Try.prog (mkS Try.prog S Fr Sq ⟨[], [], [], [], []⟩ 0) 0 ⟨[0, 2, 3, 4, 5, 9, 18], [⟨2, [(3, .int .i64 0), (4, .int .i64 0)], [], [], [], []⟩], [], []⟩ Try.f119 [.int .i64 n] [] Q = R119 n S Fr Sq Q := by kernel_rfl
theorem s119 (n : Int) (v : AV) (O : List (List AV)) (h : R119 n (SpecOf Try.prog) (FreshOf Try.prog) (SeqOf Try.prog) (fun r O' => r = v ∧ O' = O)) : SpecOf Try.prog 119 [.int .i64 n] [] v O :=
  spec_by (boxes := []) mixed (by exact trivial) Try.func119 Try.call119 rfl rfl rfl (Nat.le_of_ble_eq_true rfl) (r119 n (SpecOf Try.prog) (FreshOf Try.prog) (SeqOf Try.prog) _) h
theorem c119 (n : Int) (h1 : n ≤ 4000000000000000000) : Sp 119 [.int .i64 n] [] (.int .i64 (rootS n)) [] := s119 n _ _ (by
  unfold R119
  refine ⟨fun m vs => ∃ lo hi : Int, vs = [.int .i64 lo, .int .i64 hi] ∧ m = (hi - lo).toNat ∧ -1 ≤ lo ∧ lo < hi ∧ hi ≤ 2000000000 ∧ n ≤ hi * hi ∧ (lo = -1 ∨ (0 ≤ lo ∧ lo * lo < n)), ⟨_, -1, 2000000000, rfl, rfl, by omega, by omega, by omega, by omega, .inl rfl⟩, ?_⟩
  rintro m a b ⟨lo, hi, hv, rfl, g1, g2, g3, g4, g5⟩
  cases hv
  rw [i64 (n := b - a) (by omega)]
  refine ⟨fun q => ?_, fun q => ⟨?_, rfl⟩⟩
  · have q : b - a > 1 := by simpa using q
    have e1 : IntKind.i64.wrap ((IntKind.i64.wrap (a + b)).tdiv 2) = (a + b) / 2 := by
      rw [i64 (n := a + b) (by omega), Int.tdiv_eq_ediv_of_nonneg (by omega)]; exact i64 (by omega)
    rw [e1]
    have hm : a < (a + b) / 2 ∧ (a + b) / 2 < b ∧ 0 ≤ (a + b) / 2 := by omega
    generalize (a + b) / 2 = c at hm
    have hs : 0 ≤ c * c := Int.mul_nonneg hm.2.2 hm.2.2
    have hs2 : c * c ≤ 2000000000 * 2000000000 := Int.mul_le_mul (by omega) (by omega) (by omega) (by omega)
    rw [i64 (n := c * c) (by omega)]
    refine ⟨fun q2 => ⟨(c - a).toNat, by omega, a, c, rfl, rfl, by omega, by omega, by omega, by simpa using q2, g5⟩, fun q2 => ⟨(b - c).toNat, by omega, c, b, rfl, rfl, by omega, by omega, by omega, g4, .inr ⟨hm.2.2, by simpa using q2⟩⟩⟩
  · have q : b - a ≤ 1 := by simpa using q
    have hb : b = a + 1 := by omega
    subst hb
    have hr : IsRoot n (a + 1) := ⟨by omega, g4, by
      rcases g5 with g5 | g5
      · left; omega
      · right; rw [Int.add_sub_cancel]; exact g5.2⟩
    rw [root_unique (rootS_spec h1) hr])
def R63 (f : TFeFeeder) (node : Int) (inner : Bool) (S : SpecF) (_Fr : FuncId → List AV → Nat → List AV → Prop) (_Sq : FuncId → List AV → List (List AV) → List (List AV) → Prop) (Q : AV → List (List AV) → Prop) : Prop :=
  ∃ n0 n1 n2, S (16 : Nat) [f.av] [] (AV.tup [AV.int .i64 n0, AV.int .i64 n1, AV.int .i64 n2]) [] ∧ ((n2 == (0 : Int)) = true → ∃ b6, S (55 : Nat) [AV.int .i64 node, AV.int .i64 (0 : Int), AV.int .i64 (IntKind.i64.wrap ((↑(List.map TFeNode.av f.Nodes).length : Int) - (1 : Int)))] [] (AV.bool b6) [] ∧ ((!b6) = true → Q (AV.int .i64 (4 : Int)) []) ∧ ((!b6) = false → ((n2 == (0 : Int)) = true → (inner = true → ((node == (0 : Int)) = true → Q (AV.int .i64 (2 : Int)) []) ∧ ((node == (0 : Int)) = false → Q (AV.int .i64 n2) [])) ∧ (inner = false → Q (AV.int .i64 n2) [])) ∧ ((n2 == (0 : Int)) = false → Q (AV.int .i64 n2) []))) ∧ ((n2 == (0 : Int)) = false → ((n2 == (0 : Int)) = true → (inner = true → ((node == (0 : Int)) = true → Q (AV.int .i64 (2 : Int)) []) ∧ ((node == (0 : Int)) = false → Q (AV.int .i64 n2) [])) ∧ (inner = false → Q (AV.int .i64 n2) [])) ∧ ((n2 == (0 : Int)) = false → Q (AV.int .i64 n2) []))
theorem r63 (f : TFeFeeder) (node : Int) (inner : Bool) (S : SpecF) (Fr : FuncId → List AV → Nat → List AV → Prop) (Sq : FuncId → List AV → List (List AV) → List (List AV) → Prop) (Q : AV → List (List AV) → Prop) : awpF Try.prog (mkS Try.prog S Fr Sq ⟨[], [], [], [], []⟩ 0) 0 ⟨[0, 1, 2, 3, 6, 9, 26, 35], [], [], []⟩ Try.f63 [f.av, .int .i64 node, .bool inner] [] Q = R63 f node inner S Fr Sq Q := by kernel_rfl
theorem s63 (f : TFeFeeder) (node : Int) (inner : Bool) (v : AV) (O : List (List AV)) (h : R63 f node inner (SpecOf Try.prog) (FreshOf Try.prog) (SeqOf Try.prog) (fun r O' => r = v ∧ O' = O)) : SpecOf Try.prog 63 [f.av, .int .i64 node, .bool inner] [] v O :=
  spec_by (boxes := []) mixed (by exact trivial) Try.func63 Try.call63 rfl rfl rfl (Nat.le_of_ble_eq_true rfl) (r63 f node inner (SpecOf Try.prog) (FreshOf Try.prog) (SeqOf Try.prog) _) h
theorem c63 (f : TFeFeeder) (hn : NOK f) (node : Int) (inner : Bool) : Sp 63 [f.av, .int .i64 node, .bool inner] [] (.int .i64 (if inner then innerS f node else askedS f node)) [] := s63 f node inner _ _ (by
  unfold R63
  refine ⟨_, _, _, c16 f hn, fun h => ?_, fun h => ⟨fun h' => ?_, fun h' => ⟨?_, rfl⟩⟩⟩
  · have h : (checkF f).2.2 = 0 := by simpa using h
    have hk := ok_of h
    have e : IntKind.i64.wrap (((List.map TFeNode.av f.Nodes).length : Int) - 1) = (f.Nodes.length : Int) - 1 := by rw [List.length_map]; exact i64 (by have := hk.nn; omega)
    rw [e]
    refine ⟨_, c55 _ _ _, fun h2 => ⟨?_, rfl⟩, fun h2 => ?_⟩
    · have h2 : inB node 0 ((f.Nodes.length : Int) - 1) = false := by simpa using h2
      have ha : askedS f node = 4 := by rw [askedS, if_pos h, h2]; rfl
      have hb : innerS f node = 4 := by rw [innerS, ha, if_neg (by simp)]
      rw [ha, hb]; cases inner <;> rfl
    · have h2 : inB node 0 ((f.Nodes.length : Int) - 1) = true := by simpa using h2
      have ha : askedS f node = 0 := by rw [askedS, if_pos h, h2]; rfl
      refine ⟨fun _ => ⟨fun hi => ⟨fun h0 => ⟨?_, rfl⟩, fun h0 => ⟨?_, rfl⟩⟩, fun hi => ⟨?_, rfl⟩⟩, fun h' => by rw [h] at h'; simp at h'⟩
      · rw [hi, if_pos rfl, innerS, if_pos ⟨ha, by simpa using h0⟩]
      · rw [hi, if_pos rfl, innerS, if_neg (fun e => by simp [e.2] at h0), ha, h]
      · rw [hi, if_neg (by simp), ha, h]
  · rw [h] at h'; cases h'
  · have h : (checkF f).2.2 ≠ 0 := by simpa using h
    have ha : askedS f node = (checkF f).2.2 := by rw [askedS, if_neg h]
    have hb : innerS f node = (checkF f).2.2 := by rw [innerS, ha, if_neg (fun e => h e.1)]
    rw [ha, hb]; cases inner <;> rfl)
def R67 (f : TFeFeeder) (node : Int) (earth : Bool) (S : SpecF) (_Fr : FuncId → List AV → Nat → List AV → Prop) (_Sq : FuncId → List AV → List (List AV) → List (List AV) → Prop) (Q : AV → List (List AV) → Prop) : Prop :=
  ∃ es0, S (90 : Nat) [f.av, AV.int .i64 node] [] (AV.slc (3 : Nat) es0) [] ∧ ∃ (I2 : Nat → List AV → Prop), (∃ m4, I2 m4 [AV.int .i64 (0 : Int), f.Source.av]) ∧ ∀ (m4 : Nat) (n5 n6 n7 : Int), I2 m4 [AV.int .i64 n5, AV.agg [AV.int .i64 n6, AV.int .i64 n7]] → (decide (n5 < (↑es0.length : Int)) = true → ∃ n11, ((0 : Int) ≤ n5 ∧ (1 : Nat) = (1 : Nat) ∧ es0[n5.toNat]? = some (AV.int .i64 n11)) ∧ ∃ s13 n14 n15 n16 n17 n18 n19 n20 n21 n22 n23, ((0 : Int) ≤ n11 ∧ (11 : Nat) = (11 : Nat) ∧ (List.map TFeNode.av f.Nodes)[n11.toNat]? = some (AV.agg [AV.str s13, AV.int .i64 n14, AV.int .i64 n15, AV.int .i64 n16, AV.int .i64 n17, AV.int .i64 n18, AV.int .i64 n19, AV.int .i64 n20, AV.int .i64 n21, AV.int .i64 n22, AV.int .i64 n23])) ∧ ∃ s25 n26 n27 n28 n29 n30, ((0 : Int) ≤ n15 ∧ (6 : Nat) = (6 : Nat) ∧ (List.map TFeCable.av f.Cables)[n15.toNat]? = some (AV.agg [AV.str s25, AV.int .i64 n26, AV.int .i64 n27, AV.int .i64 n28, AV.int .i64 n29, AV.int .i64 n30])) ∧ (earth = true → f.cs = f.cs ∧ TEncl.z0 = TEncl.z0 ∧ ∃ k36, k36 < m4 ∧ I2 k36 [AV.int .i64 (IntKind.i64.wrap (n5 + (1 : Int))), AV.agg [AV.int .i64 (IntKind.i64.wrap (n6 + IntKind.i64.wrap (n16 * IntKind.i64.wrap (n26 + n28)))), AV.int .i64 (IntKind.i64.wrap (n7 + IntKind.i64.wrap (n16 * IntKind.i64.wrap (n27 + n29))))]]) ∧ (earth = false → f.cs = f.cs ∧ TEncl.z0 = TEncl.z0 ∧ ∃ k36, k36 < m4 ∧ I2 k36 [AV.int .i64 (IntKind.i64.wrap (n5 + (1 : Int))), AV.agg [AV.int .i64 (IntKind.i64.wrap (n6 + IntKind.i64.wrap (n16 * IntKind.i64.wrap (n26 + n26)))), AV.int .i64 (IntKind.i64.wrap (n7 + IntKind.i64.wrap (n16 * IntKind.i64.wrap (n27 + n27))))]])) ∧ (decide (n5 < (↑es0.length : Int)) = false → n7 ≠ (0 : Int) ∧ n6 ≠ (0 : Int) ∧ Q (AV.agg [AV.int .i64 (IntKind.i64.wrap ((IntKind.i64.wrap ((1000000 : Int) * f.Volts.Lo)).tdiv n7)), AV.int .i64 (IntKind.i64.wrap ((IntKind.i64.wrap (IntKind.i64.wrap (IntKind.i64.wrap ((1000000 : Int) * f.Volts.Hi) + n6) - (1 : Int))).tdiv n6))]) [])
theorem r67 (f : TFeFeeder) (node : Int) (earth : Bool) (S : SpecF) (Fr : FuncId → List AV → Nat → List AV → Prop) (Sq : FuncId → List AV → List (List AV) → List (List AV) → Prop) (Q : AV → List (List AV) → Prop) : awpF Try.prog (mkS Try.prog S Fr Sq ⟨[], [], [], [], []⟩ 0) 0 ⟨[0, 1, 2, 3, 6, 7, 8, 9, 10, 11, 12, 21, 40], [⟨4, [(9, .int .i64 0)], [], [(7, .agg [.int .i64 0, .int .i64 0])], [], []⟩], [], []⟩ Try.f67 [f.av, .int .i64 node, .bool earth] [] Q = R67 f node earth S Fr Sq Q := by kernel_rfl
theorem s67 (f : TFeFeeder) (node : Int) (earth : Bool) (v : AV) (O : List (List AV)) (h : R67 f node earth (SpecOf Try.prog) (FreshOf Try.prog) (SeqOf Try.prog) (fun r O' => r = v ∧ O' = O)) : SpecOf Try.prog 67 [f.av, .int .i64 node, .bool earth] [] v O :=
  spec_by (boxes := []) mixed (by exact trivial) Try.func67 Try.call67 rfl rfl rfl (Nat.le_of_ble_eq_true rfl) (r67 f node earth (SpecOf Try.prog) (FreshOf Try.prog) (SeqOf Try.prog) _) h
theorem c67 {f : TFeFeeder} (hf : OK f) (node : Nat) (h : node < f.Nodes.length) (earth : Bool) : Sp 67 [f.av, .int .i64 node, .bool earth] [] (faultS f node earth).av [] := s67 f node earth _ _ (by
  unfold R67
  have hul := upL_len hf h
  have hnn := hf.nn
  have hsrc := hf.source
  refine ⟨_, c90 hf node h, ?_⟩
  simp only [List.length_map]
  have hmem : ∀ i ∈ (upL f node).reverse, i ≠ 0 ∧ i < f.Nodes.length := fun i hi => by have := upL_mem hf h (List.mem_reverse.1 hi); exact ⟨this.1, this.2.1⟩
  have hl : (upL f node).reverse.length ≤ 40 := by rw [List.length_reverse]; omega
  have hfin : rE f (upL f node) earth = rE f (upL f node).reverse earth := by simp only [rE, sumL_reverse]
  have hgoal : faultS f node earth = ⟨1000000 * f.Volts.Lo / (rE f (upL f node).reverse earth).Hi, (1000000 * f.Volts.Hi + (rE f (upL f node).reverse earth).Lo - 1) / (rE f (upL f node).reverse earth).Lo⟩ := by rw [faultS, hfin]
  rw [hgoal]
  clear hgoal hfin
  generalize (upL f node).reverse = L at hmem hl
  have bd : ∀ (g : Nat → Int), (∀ i, i < f.Nodes.length → i ≠ 0 → 0 ≤ g i ∧ g i ≤ 10000000000) → ∀ k, 0 ≤ sumL g (L.take k) ∧ sumL g (L.take k) ≤ 400000000000 := fun g hg k => by
    have h1 := sumL_bound (g := g) (l := L.take k) (B := 10000000000) fun i hi => by
      have := hmem i (List.mem_of_mem_take hi)
      exact hg i this.2 this.1
    have h2 : (L.take k).length ≤ 40 := by rw [List.length_take]; omega
    omega
  have tl := bd (loG f earth) (fun i hi h0 => lo_bound hf earth hi h0)
  have th := bd (hiG f earth) (fun i hi h0 => hi_bound hf earth hi h0)
  refine ⟨fun m vs => ∃ k : Nat, k ≤ L.length ∧ m = L.length - k ∧ vs = [.int .i64 k, (rE f (L.take k) earth).av], ⟨_, 0, by omega, rfl, ?_⟩, ?_⟩
  · simp [rE, sumL, TEncl.av, TEncl.cs]
  rintro m n n1 n2 ⟨k, hk, rfl, hv⟩
  cases hv
  refine ⟨fun g => ?_, fun g => ?_⟩
  · have g : k < L.length := by simpa using g
    obtain ⟨x, hx, hx'⟩ := map_getN (f := nI) g
    obtain ⟨h0, hlt⟩ := hmem x (List.mem_of_getElem? hx)
    have hc := (node_ok hf hlt h0).cable
    have hlen := (node_ok hf hlt h0).len
    have hb := cb_ok hf hlt h0
    have hbk := back_ok hb earth
    have hco := hb.core
    have t1 := tl k; have t2 := th k; have t3 := tl (k + 1); have t4 := th (k + 1)
    rw [sumL_take hx] at t3 t4
    have l1 := lo_bound hf earth hlt h0; have l2 := hi_bound hf earth hlt h0
    have m1 : (nd f x).Length * ((cb f x).Core.Lo + (backE earth (cb f x)).Lo) = loG f earth x := by rw [Int.mul_add]; rfl
    have m2 : (nd f x).Length * ((cb f x).Core.Hi + (backE earth (cb f x)).Hi) = hiG f earth x := by rw [Int.mul_add]; rfl
    have fin : ∀ c : TEncl, c = backE earth (cb f x) → ∃ m', m' < L.length - k ∧ ∃ j : Nat, j ≤ L.length ∧ m' = L.length - j ∧
        [AV.int .i64 (IntKind.i64.wrap ((k : Int) + 1)), .agg [.int .i64 (IntKind.i64.wrap ((rE f (L.take k) earth).Lo + IntKind.i64.wrap ((nd f x).Length * IntKind.i64.wrap ((cb f x).Core.Lo + c.Lo)))), .int .i64 (IntKind.i64.wrap ((rE f (L.take k) earth).Hi + IntKind.i64.wrap ((nd f x).Length * IntKind.i64.wrap ((cb f x).Core.Hi + c.Hi))))]] = [.int .i64 j, (rE f (L.take j) earth).av] := by
      rintro c rfl
      refine ⟨_, (by omega : L.length - (k + 1) < L.length - k), k + 1, by omega, rfl, ?_⟩
      rw [wrapN (by omega), i64 (n := (cb f x).Core.Lo + _) (by omega), i64 (n := (cb f x).Core.Hi + _) (by omega), m1, m2, i64 (n := loG f earth x) (by omega), i64 (n := hiG f earth x) (by omega)]
      simp only [rE, sumL_take hx]
      rw [i64 (n := f.Source.Lo + sumL (loG f earth) (L.take k) + loG f earth x) (by omega), i64 (n := f.Source.Hi + sumL (hiG f earth) (L.take k) + hiG f earth x) (by omega)]
      simp only [TEncl.av, TEncl.cs, Int.add_assoc]
    refine ⟨x, ⟨by omega, trivial, hx'⟩, (nd f x).Name, (nd f x).Parent, (nd f x).Cable, (nd f x).Length, (nd f x).Fuse, (nd f x).Loads0.Lo, (nd f x).Loads0.Hi, (nd f x).Loads1.Lo, (nd f x).Loads1.Hi, (nd f x).Loads2.Lo, (nd f x).Loads2.Hi, ⟨by omega, trivial, nd_av hlt⟩, (cb f x).Name, (cb f x).Core.Lo, (cb f x).Core.Hi, (cb f x).Earth.Lo, (cb f x).Earth.Hi, (cb f x).Rated, ⟨hc.1, trivial, cb_av hf hlt h0⟩, fun he => ?_, fun he => ?_⟩
    · have ff := fin (cb f x).Earth (by rw [he]; rfl)
      first | exact ff | exact ⟨trivial, ff⟩ | exact ⟨trivial, trivial, ff⟩ | exact ⟨rfl, rfl, ff⟩
    · have ff := fin (cb f x).Core (by rw [he]; rfl)
      first | exact ff | exact ⟨trivial, ff⟩ | exact ⟨trivial, trivial, ff⟩ | exact ⟨rfl, rfl, ff⟩
  · have : k = L.length := by simp at g; omega
    subst this
    have t1 := tl L.length; have t2 := th L.length
    rw [List.take_length] at t1 t2 ⊢
    have hv := hf.volts
    have b1 : 1 ≤ (rE f L earth).Lo ∧ (rE f L earth).Lo ≤ 500000000000 := by simp only [rE]; omega
    have b2 : 1 ≤ (rE f L earth).Hi ∧ (rE f L earth).Hi ≤ 500000000000 := by simp only [rE]; omega
    have g1 : 0 ≤ 1000000 * f.Volts.Lo / (rE f L earth).Hi ∧ 1000000 * f.Volts.Lo / (rE f L earth).Hi ≤ 1000000 * f.Volts.Lo := ⟨Int.ediv_nonneg (by omega) (by omega), Int.ediv_le_self _ (by omega)⟩
    have g2 : 0 ≤ (1000000 * f.Volts.Hi + (rE f L earth).Lo - 1) / (rE f L earth).Lo ∧ (1000000 * f.Volts.Hi + (rE f L earth).Lo - 1) / (rE f L earth).Lo ≤ 1000000 * f.Volts.Hi + (rE f L earth).Lo - 1 := ⟨Int.ediv_nonneg (by omega) (by omega), Int.ediv_le_self _ (by omega)⟩
    refine ⟨by omega, by omega, ?_, trivial⟩
    rw [i64 (n := 1000000 * f.Volts.Lo) (by omega), i64 (n := 1000000 * f.Volts.Hi) (by omega), i64 (n := 1000000 * f.Volts.Hi + (rE f L earth).Lo) (by omega), i64 (n := 1000000 * f.Volts.Hi + (rE f L earth).Lo - 1) (by omega),
      Int.tdiv_eq_ediv_of_nonneg (by omega), Int.tdiv_eq_ediv_of_nonneg (by omega), i64 (n := 1000000 * f.Volts.Lo / (rE f L earth).Hi) (by omega), i64 (n := (1000000 * f.Volts.Hi + (rE f L earth).Lo - 1) / (rE f L earth).Lo) (by omega)]
    rfl)
end Go.Proofs.Ytbdbnpnichkcjaa

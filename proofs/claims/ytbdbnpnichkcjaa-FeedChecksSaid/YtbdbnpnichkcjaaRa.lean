/- Contracts: the reference's checks. -/
import Derived.Test.YtbdbnpnichkcjaaB
namespace Go.Proofs.Ytbdbnpnichkcjaa
open Go.RowKit
theorem any_take {α : Type} {q : α → Bool} {l : List α} {k : Nat} {x : α} (h : l[k]? = some x) : (l.take (k + 1)).any q = ((l.take k).any q || q x) := by
  rw [List.take_add_one, h, List.any_append]; simp
def R56 (f : TFeFeeder) (i : Int) (S : SpecF) (Fr : FuncId → List AV → Nat → List AV → Prop) (Sq : FuncId → List AV → List (List AV) → List (List AV) → Prop) (Q : AV → List (List AV) → Prop) : Prop :=
  ∃ s0 n1 n2 n3 n4 n5, ((0 : Int) ≤ i ∧ (6 : Nat) = (6 : Nat) ∧ (List.map TFeCable.av f.Cables)[i.toNat]? = some (AV.agg [AV.str s0, AV.int IntKind.i64 n1, AV.int IntKind.i64 n2, AV.int IntKind.i64 n3, AV.int IntKind.i64 n4, AV.int IntKind.i64 n5])) ∧ ∃ b7, S (103 : Nat) [AV.str s0] [] (AV.bool b7) [] ∧ ((!b7) = true → Q (AV.int IntKind.i64 (6 : Int)) []) ∧ ((!b7) = false → ∃ (I11 : Nat → List AV → Prop), (∃ m13, I11 m13 [AV.int IntKind.i64 (0 : Int)]) ∧ ∀ (m13 : Nat) (n14 : Int), I11 m13 [AV.int IntKind.i64 n14] → (decide (n14 < i) = true → ∃ s18 n19 n20 n21 n22 n23, ((0 : Int) ≤ n14 ∧ (6 : Nat) = (6 : Nat) ∧ (List.map TFeCable.av f.Cables)[n14.toNat]? = some (AV.agg [AV.str s18, AV.int IntKind.i64 n19, AV.int IntKind.i64 n20, AV.int IntKind.i64 n21, AV.int IntKind.i64 n22, AV.int IntKind.i64 n23])) ∧ ((s18.toList == s0.toList) = true → Q (AV.int IntKind.i64 (5 : Int)) []) ∧ ((s18.toList == s0.toList) = false → f.cs = f.cs ∧ [AV.str s0, AV.int IntKind.i64 n1, AV.int IntKind.i64 n2, AV.int IntKind.i64 n3, AV.int IntKind.i64 n4, AV.int IntKind.i64 n5] = [AV.str s0, AV.int IntKind.i64 n1, AV.int IntKind.i64 n2, AV.int IntKind.i64 n3, AV.int IntKind.i64 n4, AV.int IntKind.i64 n5] ∧ ∃ k29, k29 < m13 ∧ I11 k29 [AV.int IntKind.i64 (IntKind.i64.wrap (n14 + (1 : Int)))])) ∧ (decide (n14 < i) = false → ∃ b18, S (54 : Nat) [AV.agg [AV.int IntKind.i64 n1, AV.int IntKind.i64 n2], AV.int IntKind.i64 (1 : Int), AV.int IntKind.i64 (1000000 : Int)] [] (AV.bool b18) [] ∧ ((!b18) = true → Q (AV.int IntKind.i64 (7 : Int)) []) ∧ ((!b18) = false → ∃ b22, S (54 : Nat) [AV.agg [AV.int IntKind.i64 n3, AV.int IntKind.i64 n4], AV.int IntKind.i64 (1 : Int), AV.int IntKind.i64 (1000000 : Int)] [] (AV.bool b22) [] ∧ ((!b22) = true → Q (AV.int IntKind.i64 (7 : Int)) []) ∧ ((!b22) = false → ∃ b26, S (55 : Nat) [AV.int IntKind.i64 n5, AV.int IntKind.i64 (1 : Int), AV.int IntKind.i64 (100000000 : Int)] [] (AV.bool b26) [] ∧ ((!b26) = true → Q (AV.int IntKind.i64 (7 : Int)) []) ∧ ((!b26) = false → Q (AV.int IntKind.i64 (0 : Int)) [])))))
theorem r56 (f : TFeFeeder) (i : Int) (S : SpecF) (Fr : FuncId → List AV → Nat → List AV → Prop) (Sq : FuncId → List AV → List (List AV) → List (List AV) → Prop) (Q : AV → List (List AV) → Prop) : awpF Try.prog (mkS Try.prog S Fr Sq ⟨[], [], [], [], []⟩ 0) 0 ⟨[0, 1, 2, 4, 5, 6, 15, 18, 29, 45], [⟨5, [(6, .int .i64 0)], [], [], [], []⟩], [], []⟩ Try.f56 [f.av, .int .i64 i] [] Q = R56 f i S Fr Sq Q := by kernel_rfl
theorem s56 (f : TFeFeeder) (i : Int) (v : AV) (O : List (List AV)) (h : R56 f i (SpecOf Try.prog) (FreshOf Try.prog) (SeqOf Try.prog) (fun r O' => r = v ∧ O' = O)) : SpecOf Try.prog 56 [f.av, .int .i64 i] [] v O :=
  spec_by (boxes := []) mixed (by exact trivial) Try.func56 Try.call56 rfl rfl rfl (Nat.le_of_ble_eq_true rfl) (r56 f i (SpecOf Try.prog) (FreshOf Try.prog) (SeqOf Try.prog) _) h
theorem c56 (f : TFeFeeder) (i : Nat) (hl : f.Cables.length ≤ 1000000) (hi : i < f.Cables.length) (hnm : ∀ x ∈ f.Cables, x.Name.size ≤ 9223372036854775807) : Sp 56 [f.av, .int .i64 i] [] (.int .i64 (errAt TFeCable.Name cableS f.Cables i)) [] := s56 f i _ _ (by
  unfold R56
  obtain ⟨x, hx, hx'⟩ := map_getN (f := TFeCable.av) hi
  have hat := errAt_some (nm := TFeCable.Name) (rest := cableS) hx
  refine ⟨x.Name, x.Core.Lo, x.Core.Hi, x.Earth.Lo, x.Earth.Hi, x.Rated, ⟨by omega, rfl, hx'⟩, _, c103 x.Name (hnm x (List.mem_of_getElem? hx)), fun h1 => ⟨?_, rfl⟩, fun h1 => ?_⟩
  · rw [hat, if_pos h1]
  have h1' : ¬ (!nameB x.Name) = true := by rw [h1]; simp
  refine ⟨fun m vs => ∃ k : Nat, k ≤ i ∧ m = i - k ∧ vs = [.int .i64 k] ∧ ((f.Cables.take k).any fun y => twinB y.Name x.Name) = false, ⟨_, 0, by omega, rfl, rfl, rfl⟩, ?_⟩
  rintro m n ⟨k, hk, rfl, hv, ha⟩
  cases hv
  refine ⟨fun h2 => ?_, fun h2 => ?_⟩
  · have h2 : k < i := by simpa using h2
    obtain ⟨y, hy, hy'⟩ := map_getN (f := TFeCable.av) (l := f.Cables) (k := k) (by omega)
    have hs := any_take (q := fun y : TFeCable => twinB y.Name x.Name) hy
    refine ⟨y.Name, y.Core.Lo, y.Core.Hi, y.Earth.Lo, y.Earth.Hi, y.Rated, ⟨by omega, rfl, hy'⟩, fun h3 => ⟨?_, rfl⟩, fun h3 => ?_⟩
    · have : ((f.Cables.take i).any fun y => twinB y.Name x.Name) = true := List.any_eq_true.2 ⟨y, List.mem_of_getElem? (by rw [List.getElem?_take, if_pos h2]; exact hy), h3⟩
      rw [hat, if_neg h1', if_pos this]
    · repeat refine And.intro rfl ?_
      exact ⟨_, (by omega : i - (k + 1) < i - k), k + 1, by omega, rfl, by rw [wrapN (by omega)], by rw [hs, ha]; exact h3⟩
  · obtain rfl : k = i := by simp at h2; omega
    have he : errAt TFeCable.Name cableS f.Cables k = cableS k x := by rw [hat, if_neg h1', if_neg (by rw [ha]; simp)]
    rw [he]
    refine ⟨_, c54 x.Core _ _, fun h3 => ⟨?_, rfl⟩, fun h3 => ⟨_, c54 x.Earth _ _, fun h4 => ⟨?_, rfl⟩, fun h4 => ⟨_, c55 _ _ _, fun h5 => ⟨?_, rfl⟩, fun h5 => ⟨?_, rfl⟩⟩⟩⟩ <;> simp_all [cableS])
theorem bnot_and {a b : Bool} : (!a || b) = !(a && !b) := by cases a <;> cases b <;> rfl
def R57 (f : TFeFeeder) (i : Int) (S : SpecF) (Fr : FuncId → List AV → Nat → List AV → Prop) (Sq : FuncId → List AV → List (List AV) → List (List AV) → Prop) (Q : AV → List (List AV) → Prop) : Prop :=
  ∃ s0 n1 es2, ((0 : Int) ≤ i ∧ (3 : Nat) = (3 : Nat) ∧ (List.map TFeFuse.av f.Fuses)[i.toNat]? = some (AV.agg [AV.str s0, AV.int IntKind.i64 n1, AV.slc (3 : Nat) es2])) ∧ ∃ b4, S (103 : Nat) [AV.str s0] [] (AV.bool b4) [] ∧ ((!b4) = true → Q (AV.int IntKind.i64 (6 : Int)) []) ∧ ((!b4) = false → ∃ (I8 : Nat → List AV → Prop), (∃ m10, I8 m10 [AV.int IntKind.i64 (0 : Int)]) ∧ ∀ (m10 : Nat) (n11 : Int), I8 m10 [AV.int IntKind.i64 n11] → (decide (n11 < i) = true → ∃ s15 n16 es17, ((0 : Int) ≤ n11 ∧ (3 : Nat) = (3 : Nat) ∧ (List.map TFeFuse.av f.Fuses)[n11.toNat]? = some (AV.agg [AV.str s15, AV.int IntKind.i64 n16, AV.slc (3 : Nat) es17])) ∧ ((s15.toList == s0.toList) = true → Q (AV.int IntKind.i64 (5 : Int)) []) ∧ ((s15.toList == s0.toList) = false → f.cs = f.cs ∧ [AV.str s0, AV.int IntKind.i64 n1, AV.slc (3 : Nat) es2] = [AV.str s0, AV.int IntKind.i64 n1, AV.slc (3 : Nat) es2] ∧ ∃ k23, k23 < m10 ∧ I8 k23 [AV.int IntKind.i64 (IntKind.i64.wrap (n11 + (1 : Int)))])) ∧ (decide (n11 < i) = false → ∃ b15, S (55 : Nat) [AV.int IntKind.i64 (↑es2.length : Int), AV.int IntKind.i64 (1 : Int), AV.int IntKind.i64 (8 : Int)] [] (AV.bool b15) [] ∧ ((!b15) = true → Q (AV.int IntKind.i64 (3 : Int)) []) ∧ ((!b15) = false → ∃ b19, S (55 : Nat) [AV.int IntKind.i64 n1, AV.int IntKind.i64 (1 : Int), AV.int IntKind.i64 (100000000 : Int)] [] (AV.bool b19) [] ∧ ∃ (I21 : Nat → List AV → Prop), (∃ m23, I21 m23 [AV.bool b19, AV.int IntKind.i64 (0 : Int)]) ∧ ∀ (m23 : Nat) (b24 : Bool) (n25 : Int), I21 m23 [AV.bool b24, AV.int IntKind.i64 n25] → (decide (n25 < (↑es2.length : Int)) = true → (b24 = true → ∃ n31 n32 n33, ((0 : Int) ≤ n25 ∧ (3 : Nat) = (3 : Nat) ∧ es2[n25.toNat]? = some (AV.agg [AV.int IntKind.i64 n31, AV.int IntKind.i64 n32, AV.int IntKind.i64 n33])) ∧ ∃ b35, S (55 : Nat) [AV.int IntKind.i64 n31, AV.int IntKind.i64 (1 : Int), AV.int IntKind.i64 (100000000 : Int)] [] (AV.bool b35) [] ∧ (b35 = true → ∃ n39 n40 n41, ((0 : Int) ≤ n25 ∧ (3 : Nat) = (3 : Nat) ∧ es2[n25.toNat]? = some (AV.agg [AV.int IntKind.i64 n39, AV.int IntKind.i64 n40, AV.int IntKind.i64 n41])) ∧ ∃ b43, S (54 : Nat) [AV.agg [AV.int IntKind.i64 n40, AV.int IntKind.i64 n41], AV.int IntKind.i64 (1 : Int), AV.int IntKind.i64 (100000000 : Int)] [] (AV.bool b43) [] ∧ f.cs = f.cs ∧ [AV.str s0, AV.int IntKind.i64 n1, AV.slc (3 : Nat) es2] = [AV.str s0, AV.int IntKind.i64 n1, AV.slc (3 : Nat) es2] ∧ ∃ k47, k47 < m23 ∧ I21 k47 [AV.bool b43, AV.int IntKind.i64 (IntKind.i64.wrap (n25 + (1 : Int)))]) ∧ (b35 = false → f.cs = f.cs ∧ [AV.str s0, AV.int IntKind.i64 n1, AV.slc (3 : Nat) es2] = [AV.str s0, AV.int IntKind.i64 n1, AV.slc (3 : Nat) es2] ∧ ∃ k41, k41 < m23 ∧ I21 k41 [AV.bool false, AV.int IntKind.i64 (IntKind.i64.wrap (n25 + (1 : Int)))])) ∧ (b24 = false → f.cs = f.cs ∧ [AV.str s0, AV.int IntKind.i64 n1, AV.slc (3 : Nat) es2] = [AV.str s0, AV.int IntKind.i64 n1, AV.slc (3 : Nat) es2] ∧ ∃ k33, k33 < m23 ∧ I21 k33 [AV.bool false, AV.int IntKind.i64 (IntKind.i64.wrap (n25 + (1 : Int)))])) ∧ (decide (n25 < (↑es2.length : Int)) = false → ((!b24) = true → Q (AV.int IntKind.i64 (7 : Int)) []) ∧ ((!b24) = false → ∃ (I31 : Nat → List AV → Prop), (∃ m33, I31 m33 [AV.int IntKind.i64 (1 : Int)]) ∧ ∀ (m33 : Nat) (n34 : Int), I31 m33 [AV.int IntKind.i64 n34] → (decide (n34 < (↑es2.length : Int)) = true → ∃ n38 n39 n40, ((0 : Int) ≤ IntKind.i64.wrap (n34 - (1 : Int)) ∧ (3 : Nat) = (3 : Nat) ∧ es2[(IntKind.i64.wrap (n34 - (1 : Int))).toNat]? = some (AV.agg [AV.int IntKind.i64 n38, AV.int IntKind.i64 n39, AV.int IntKind.i64 n40])) ∧ ∃ n42 n43 n44, ((0 : Int) ≤ n34 ∧ (3 : Nat) = (3 : Nat) ∧ es2[n34.toNat]? = some (AV.agg [AV.int IntKind.i64 n42, AV.int IntKind.i64 n43, AV.int IntKind.i64 n44])) ∧ (decide (n42 ≤ n38) = true → Q (AV.int IntKind.i64 (2 : Int)) []) ∧ (decide (n42 ≤ n38) = false → (decide (n43 > n39) = true → Q (AV.int IntKind.i64 (2 : Int)) []) ∧ (decide (n43 > n39) = false → (decide (n44 > n40) = true → Q (AV.int IntKind.i64 (2 : Int)) []) ∧ (decide (n44 > n40) = false → f.cs = f.cs ∧ [AV.str s0, AV.int IntKind.i64 n1, AV.slc (3 : Nat) es2] = [AV.str s0, AV.int IntKind.i64 n1, AV.slc (3 : Nat) es2] ∧ ∃ k54, k54 < m33 ∧ I31 k54 [AV.int IntKind.i64 (IntKind.i64.wrap (n34 + (1 : Int)))])))) ∧ (decide (n34 < (↑es2.length : Int)) = false → Q (AV.int IntKind.i64 (0 : Int)) []))))))
theorem r57 (f : TFeFeeder) (i : Int) (S : SpecF) (Fr : FuncId → List AV → Nat → List AV → Prop) (Sq : FuncId → List AV → List (List AV) → List (List AV) → Prop) (Q : AV → List (List AV) → Prop) : awpF Try.prog (mkS Try.prog S Fr Sq ⟨[], [], [], [], []⟩ 0) 0 ⟨[0, 1, 2, 4, 5, 6, 7, 8, 9, 10, 11, 20, 23, 34, 39, 47, 70, 75, 111], [⟨5, [(6, .int .i64 0)], [], [], [], []⟩, ⟨13, [(7, .bool false), (8, .int .i64 0)], [], [], [], []⟩, ⟨19, [(9, .int .i64 0)], [], [], [], []⟩], [], []⟩ Try.f57 [f.av, .int .i64 i] [] Q = R57 f i S Fr Sq Q := by kernel_rfl
theorem s57 (f : TFeFeeder) (i : Int) (v : AV) (O : List (List AV)) (h : R57 f i (SpecOf Try.prog) (FreshOf Try.prog) (SeqOf Try.prog) (fun r O' => r = v ∧ O' = O)) : SpecOf Try.prog 57 [f.av, .int .i64 i] [] v O :=
  spec_by (boxes := []) mixed (by exact trivial) Try.func57 Try.call57 rfl rfl rfl (Nat.le_of_ble_eq_true rfl) (r57 f i (SpecOf Try.prog) (FreshOf Try.prog) (SeqOf Try.prog) _) h
theorem c57 (f : TFeFeeder) (i : Nat) (hl : f.Fuses.length ≤ 1000000) (hi : i < f.Fuses.length) (hnm : ∀ x ∈ f.Fuses, x.Name.size ≤ 9223372036854775807) : Sp 57 [f.av, .int .i64 i] [] (.int .i64 (errAt TFeFuse.Name curveS f.Fuses i)) [] := s57 f i _ _ (by
  unfold R57
  obtain ⟨x, hx, hx'⟩ := map_getN (f := TFeFuse.av) hi
  have hat := errAt_some (nm := TFeFuse.Name) (rest := curveS) hx
  refine ⟨x.Name, x.Rated, List.map TFePoint.av x.Points, ⟨by omega, rfl, hx'⟩, _, c103 x.Name (hnm x (List.mem_of_getElem? hx)), fun h1 => ⟨?_, rfl⟩, fun h1 => ?_⟩
  · rw [hat, if_pos h1]
  have h1' : ¬ (!nameB x.Name) = true := by rw [h1]; simp
  refine ⟨fun m vs => ∃ k : Nat, k ≤ i ∧ m = i - k ∧ vs = [.int .i64 k] ∧ ((f.Fuses.take k).any fun y => twinB y.Name x.Name) = false, ⟨_, 0, by omega, rfl, rfl, rfl⟩, ?_⟩
  rintro m n ⟨k, hk, rfl, hv, ha⟩
  cases hv
  refine ⟨fun h2 => ?_, fun h2 => ?_⟩
  · have h2 : k < i := by simpa using h2
    obtain ⟨y, hy, hy'⟩ := map_getN (f := TFeFuse.av) (l := f.Fuses) (k := k) (by omega)
    have hs := any_take (q := fun y : TFeFuse => twinB y.Name x.Name) hy
    refine ⟨y.Name, y.Rated, List.map TFePoint.av y.Points, ⟨by omega, rfl, hy'⟩, fun h3 => ⟨?_, rfl⟩, fun h3 => ?_⟩
    · have : ((f.Fuses.take i).any fun y => twinB y.Name x.Name) = true := List.any_eq_true.2 ⟨y, List.mem_of_getElem? (by rw [List.getElem?_take, if_pos h2]; exact hy), h3⟩
      rw [hat, if_neg h1', if_pos this]
    · repeat refine And.intro rfl ?_
      exact ⟨_, (by omega : i - (k + 1) < i - k), k + 1, by omega, rfl, by rw [wrapN (by omega)], by rw [hs, ha]; exact h3⟩
  · obtain rfl : k = i := by simp at h2; omega
    have he : errAt TFeFuse.Name curveS f.Fuses k = curveS k x := by rw [hat, if_neg h1', if_neg (by rw [ha]; simp)]
    rw [he]
    simp only [List.length_map]
    refine ⟨_, c55 _ _ _, fun h3 => ⟨?_, trivial⟩, fun h3 => ⟨_, c55 _ _ _, ?_⟩⟩
    · rw [curveS, if_pos h3]
    have h3' : ¬ (!inB x.Points.length 1 8) = true := by rw [h3]; simp
    have h8 := inB_iff.1 (by simpa using h3 : inB x.Points.length 1 8 = true)
    refine ⟨fun m vs => ∃ j : Nat, j ≤ x.Points.length ∧ m = x.Points.length - j ∧ vs = [.bool (inB x.Rated 1 100000000 && !(x.Points.take j).any wildP), .int .i64 j], ⟨_, 0, by omega, rfl, by simp⟩, ?_⟩
    rintro m b n ⟨j, hj, rfl, hv⟩
    cases hv
    refine ⟨fun h4 => ?_, fun h4 => ?_⟩
    · have h4 : j < x.Points.length := by simpa using h4
      obtain ⟨p, hp, hp'⟩ := map_getN (f := TFePoint.av) h4
      have hs := any_take (q := wildP) hp
      have hw : IntKind.i64.wrap ((j : Int) + 1) = ((j + 1 : Nat) : Int) := wrapN (by omega)
      rw [hw]
      have fin : ∀ b : Bool, b = (inB x.Rated 1 100000000 && !(x.Points.take (j + 1)).any wildP) → ∃ m', m' < x.Points.length - j ∧ ∃ j' : Nat, j' ≤ x.Points.length ∧ m' = x.Points.length - j' ∧ [AV.bool b, .int .i64 ((j + 1 : Nat) : Int)] = [.bool (inB x.Rated 1 100000000 && !(x.Points.take j').any wildP), .int .i64 j'] := fun b hb =>
        ⟨_, (by omega : x.Points.length - (j + 1) < x.Points.length - j), j + 1, by omega, rfl, by rw [hb]⟩
      refine ⟨fun g1 => ⟨p.Current, p.Melt.Lo, p.Melt.Hi, ⟨by omega, trivial, hp'⟩, _, c55 _ _ _, fun g2 => ⟨p.Current, p.Melt.Lo, p.Melt.Hi, ⟨by omega, trivial, hp'⟩, _, c54 p.Melt _ _, ?_⟩, fun g2 => ?_⟩, fun g1 => ?_⟩
      · have hh : wiB p.Melt 1 100000000 = (inB x.Rated 1 100000000 && !(x.Points.take (j + 1)).any wildP) := by
          rw [hs]
          simp only [Bool.and_eq_true, Bool.not_eq_true'] at g1
          rw [g1.1, g1.2, wildP, g2]; simp
        first | exact fin _ hh | exact ⟨trivial, fin _ hh⟩ | exact ⟨trivial, trivial, fin _ hh⟩ | exact ⟨trivial, trivial, trivial, fin _ hh⟩
      · have hh : false = (inB x.Rated 1 100000000 && !(x.Points.take (j + 1)).any wildP) := by
          rw [hs, wildP, g2]; simp
        first | exact fin _ hh | exact ⟨trivial, fin _ hh⟩ | exact ⟨trivial, trivial, fin _ hh⟩ | exact ⟨trivial, trivial, trivial, fin _ hh⟩
      · have hh : false = (inB x.Rated 1 100000000 && !(x.Points.take (j + 1)).any wildP) := by
          rw [hs]
          cases hr : inB x.Rated 1 100000000
          · rfl
          · rw [hr] at g1
            have : (x.Points.take j).any wildP = true := by simpa using g1
            rw [this]; rfl
        first | exact fin _ hh | exact ⟨trivial, fin _ hh⟩ | exact ⟨trivial, trivial, fin _ hh⟩ | exact ⟨trivial, trivial, trivial, fin _ hh⟩
    · obtain rfl : j = x.Points.length := by simp at h4; omega
      rw [List.take_length]
      refine ⟨fun g1 => ⟨?_, trivial⟩, fun g1 => ?_⟩
      · have : (!inB x.Rated 1 100000000 || x.Points.any wildP) = true := by
          rw [bnot_and]; exact g1
        rw [curveS, if_neg h3', if_pos this]
      · have hng : ¬ (!inB x.Rated 1 100000000 || x.Points.any wildP) = true := by
          rw [bnot_and, g1]; simp
        have hc : curveS k x = stepsS x.Points := by rw [curveS, if_neg h3', if_neg hng]
        rw [hc]
        refine ⟨fun m vs => ∃ q : Nat, q + 1 ≤ x.Points.length ∧ m = x.Points.length - q ∧ vs = [.int .i64 ((q + 1 : Nat) : Int)] ∧ stepsS (x.Points.drop q) = stepsS x.Points, ⟨_, 0, by omega, rfl, rfl, rfl⟩, ?_⟩
        rintro m n ⟨q, hq, rfl, hv, hst⟩
        cases hv
        refine ⟨fun g2 => ?_, fun g2 => ⟨?_, trivial⟩⟩
        · have g2 : q + 1 < x.Points.length := by simp at g2; omega
          obtain ⟨a, ha, ha'⟩ := map_getN (f := TFePoint.av) (l := x.Points) (k := q) (by omega)
          obtain ⟨b, hb, hb'⟩ := map_getN (f := TFePoint.av) (l := x.Points) (k := q + 1) (by omega)
          have hw1 : IntKind.i64.wrap (((q + 1 : Nat) : Int) - 1) = (q : Int) := by rw [i64 (by omega)]; omega
          have hw2 : IntKind.i64.wrap (((q + 1 : Nat) : Int) + 1) = ((q + 1 + 1 : Nat) : Int) := wrapN (by omega)
          rw [hw1, hw2]
          have hss := stepsS_at ha hb
          refine ⟨a.Current, a.Melt.Lo, a.Melt.Hi, ⟨by omega, trivial, ha'⟩, b.Current, b.Melt.Lo, b.Melt.Hi, ⟨by omega, trivial, hb'⟩, fun g3 => ⟨?_, trivial⟩, fun g3 => ⟨fun g4 => ⟨?_, trivial⟩, fun g4 => ⟨fun g5 => ⟨?_, trivial⟩, fun g5 => ?_⟩⟩⟩
          · rw [← hst, hss, stepB, g3]; rfl
          · rw [← hst, hss, stepB, g3, g4]; rfl
          · rw [← hst, hss, stepB, g3, g4, g5]; rfl
          · repeat refine And.intro trivial ?_
            exact ⟨_, (by omega : x.Points.length - (q + 1) < x.Points.length - q), q + 1, by omega, rfl, rfl, by rw [← hst, hss, stepB, g3, g4, g5]; rfl⟩
        · rw [← hst, stepsS_end (by simp at g2; omega)])
def R58 (f : TFeFeeder) (i : Int) (S : SpecF) (Fr : FuncId → List AV → Nat → List AV → Prop) (Sq : FuncId → List AV → List (List AV) → List (List AV) → Prop) (Q : AV → List (List AV) → Prop) : Prop :=
  ∃ s0 n1 n2 n3 n4 n5 n6 n7 n8 n9 n10, ((0 : Int) ≤ i ∧ (11 : Nat) = (11 : Nat) ∧ (List.map TFeNode.av f.Nodes)[i.toNat]? = some (AV.agg [AV.str s0, AV.int IntKind.i64 n1, AV.int IntKind.i64 n2, AV.int IntKind.i64 n3, AV.int IntKind.i64 n4, AV.int IntKind.i64 n5, AV.int IntKind.i64 n6, AV.int IntKind.i64 n7, AV.int IntKind.i64 n8, AV.int IntKind.i64 n9, AV.int IntKind.i64 n10])) ∧ ∃ b12, S (103 : Nat) [AV.str s0] [] (AV.bool b12) [] ∧ ((!b12) = true → Q (AV.int IntKind.i64 (6 : Int)) []) ∧ ((!b12) = false → ∃ (I16 : Nat → List AV → Prop), (∃ m18, I16 m18 [AV.int IntKind.i64 (0 : Int)]) ∧ ∀ (m18 : Nat) (n19 : Int), I16 m18 [AV.int IntKind.i64 n19] → (decide (n19 < i) = true → ∃ s23 n24 n25 n26 n27 n28 n29 n30 n31 n32 n33, ((0 : Int) ≤ n19 ∧ (11 : Nat) = (11 : Nat) ∧ (List.map TFeNode.av f.Nodes)[n19.toNat]? = some (AV.agg [AV.str s23, AV.int IntKind.i64 n24, AV.int IntKind.i64 n25, AV.int IntKind.i64 n26, AV.int IntKind.i64 n27, AV.int IntKind.i64 n28, AV.int IntKind.i64 n29, AV.int IntKind.i64 n30, AV.int IntKind.i64 n31, AV.int IntKind.i64 n32, AV.int IntKind.i64 n33])) ∧ ((s23.toList == s0.toList) = true → Q (AV.int IntKind.i64 (5 : Int)) []) ∧ ((s23.toList == s0.toList) = false → f.cs = f.cs ∧ [AV.str s0, AV.int IntKind.i64 n1, AV.int IntKind.i64 n2, AV.int IntKind.i64 n3, AV.int IntKind.i64 n4, AV.int IntKind.i64 n5, AV.int IntKind.i64 n6, AV.int IntKind.i64 n7, AV.int IntKind.i64 n8, AV.int IntKind.i64 n9, AV.int IntKind.i64 n10] = [AV.str s0, AV.int IntKind.i64 n1, AV.int IntKind.i64 n2, AV.int IntKind.i64 n3, AV.int IntKind.i64 n4, AV.int IntKind.i64 n5, AV.int IntKind.i64 n6, AV.int IntKind.i64 n7, AV.int IntKind.i64 n8, AV.int IntKind.i64 n9, AV.int IntKind.i64 n10] ∧ ∃ k39, k39 < m18 ∧ I16 k39 [AV.int IntKind.i64 (IntKind.i64.wrap (n19 + (1 : Int)))])) ∧ (decide (n19 < i) = false → ((i == (0 : Int)) = true → ((n1 != (-1 : Int)) = true → Q (AV.int IntKind.i64 (2 : Int)) []) ∧ ((n1 != (-1 : Int)) = false → ((n2 != (-1 : Int)) = true → Q (AV.int IntKind.i64 (2 : Int)) []) ∧ ((n2 != (-1 : Int)) = false → ((n3 != (0 : Int)) = true → Q (AV.int IntKind.i64 (2 : Int)) []) ∧ ((n3 != (0 : Int)) = false → ((n4 != (-1 : Int)) = true → Q (AV.int IntKind.i64 (2 : Int)) []) ∧ ((n4 != (-1 : Int)) = false → ((!(n5 == (0 : Int) && (n6 == (0 : Int) && true) && (n7 == (0 : Int) && (n8 == (0 : Int) && true) && (n9 == (0 : Int) && (n10 == (0 : Int) && true) && true)))) = true → Q (AV.int IntKind.i64 (2 : Int)) []) ∧ ((!(n5 == (0 : Int) && (n6 == (0 : Int) && true) && (n7 == (0 : Int) && (n8 == (0 : Int) && true) && (n9 == (0 : Int) && (n10 == (0 : Int) && true) && true)))) = false → Q (AV.int IntKind.i64 (0 : Int)) [])))))) ∧ ((i == (0 : Int)) = false → ∃ b25, S (55 : Nat) [AV.int IntKind.i64 n1, AV.int IntKind.i64 (0 : Int), AV.int IntKind.i64 (IntKind.i64.wrap (i - (1 : Int)))] [] (AV.bool b25) [] ∧ ((!b25) = true → Q (AV.int IntKind.i64 (4 : Int)) []) ∧ ((!b25) = false → ∃ b29, S (55 : Nat) [AV.int IntKind.i64 n2, AV.int IntKind.i64 (0 : Int), AV.int IntKind.i64 (IntKind.i64.wrap ((↑(List.map TFeCable.av f.Cables).length : Int) - (1 : Int)))] [] (AV.bool b29) [] ∧ ((!b29) = true → Q (AV.int IntKind.i64 (4 : Int)) []) ∧ ((!b29) = false → ∃ b33, S (55 : Nat) [AV.int IntKind.i64 n4, AV.int IntKind.i64 (-1 : Int), AV.int IntKind.i64 (IntKind.i64.wrap ((↑(List.map TFeFuse.av f.Fuses).length : Int) - (1 : Int)))] [] (AV.bool b33) [] ∧ ((!b33) = true → Q (AV.int IntKind.i64 (4 : Int)) []) ∧ ((!b33) = false → ∃ b37, S (55 : Nat) [AV.int IntKind.i64 n3, AV.int IntKind.i64 (1 : Int), AV.int IntKind.i64 (5000 : Int)] [] (AV.bool b37) [] ∧ ∃ (I39 : Nat → List AV → Prop), (∃ m41, I39 m41 [AV.bool b37, AV.int IntKind.i64 (0 : Int)]) ∧ ∀ (m41 : Nat) (b42 : Bool) (n43 : Int), I39 m41 [AV.bool b42, AV.int IntKind.i64 n43] → (decide (n43 < (3 : Int)) = true → (b42 = true → ((0 : Int) ≤ n43 ∧ n43 < (3 : Int)) ∧ (n43 = (2 : Int) → ∃ b52, S (54 : Nat) [AV.agg [AV.int IntKind.i64 n9, AV.int IntKind.i64 n10], AV.int IntKind.i64 (0 : Int), AV.int IntKind.i64 (1000000 : Int)] [] (AV.bool b52) [] ∧ f.cs = f.cs ∧ [AV.str s0, AV.int IntKind.i64 n1, AV.int IntKind.i64 n2, AV.int IntKind.i64 n3, AV.int IntKind.i64 n4, AV.int IntKind.i64 n5, AV.int IntKind.i64 n6, AV.int IntKind.i64 n7, AV.int IntKind.i64 n8, AV.int IntKind.i64 n9, AV.int IntKind.i64 n10] = [AV.str s0, AV.int IntKind.i64 n1, AV.int IntKind.i64 n2, AV.int IntKind.i64 n3, AV.int IntKind.i64 n4, AV.int IntKind.i64 n5, AV.int IntKind.i64 n6, AV.int IntKind.i64 n7, AV.int IntKind.i64 n8, AV.int IntKind.i64 n9, AV.int IntKind.i64 n10] ∧ ∃ k56, k56 < m41 ∧ I39 k56 [AV.bool b52, AV.int IntKind.i64 (IntKind.i64.wrap (n43 + (1 : Int)))]) ∧ (n43 = (1 : Int) → ∃ b53, S (54 : Nat) [AV.agg [AV.int IntKind.i64 n7, AV.int IntKind.i64 n8], AV.int IntKind.i64 (0 : Int), AV.int IntKind.i64 (1000000 : Int)] [] (AV.bool b53) [] ∧ f.cs = f.cs ∧ [AV.str s0, AV.int IntKind.i64 n1, AV.int IntKind.i64 n2, AV.int IntKind.i64 n3, AV.int IntKind.i64 n4, AV.int IntKind.i64 n5, AV.int IntKind.i64 n6, AV.int IntKind.i64 n7, AV.int IntKind.i64 n8, AV.int IntKind.i64 n9, AV.int IntKind.i64 n10] = [AV.str s0, AV.int IntKind.i64 n1, AV.int IntKind.i64 n2, AV.int IntKind.i64 n3, AV.int IntKind.i64 n4, AV.int IntKind.i64 n5, AV.int IntKind.i64 n6, AV.int IntKind.i64 n7, AV.int IntKind.i64 n8, AV.int IntKind.i64 n9, AV.int IntKind.i64 n10] ∧ ∃ k57, k57 < m41 ∧ I39 k57 [AV.bool b53, AV.int IntKind.i64 (IntKind.i64.wrap (n43 + (1 : Int)))]) ∧ (n43 = (0 : Int) → ∃ b54, S (54 : Nat) [AV.agg [AV.int IntKind.i64 n5, AV.int IntKind.i64 n6], AV.int IntKind.i64 (0 : Int), AV.int IntKind.i64 (1000000 : Int)] [] (AV.bool b54) [] ∧ f.cs = f.cs ∧ [AV.str s0, AV.int IntKind.i64 n1, AV.int IntKind.i64 n2, AV.int IntKind.i64 n3, AV.int IntKind.i64 n4, AV.int IntKind.i64 n5, AV.int IntKind.i64 n6, AV.int IntKind.i64 n7, AV.int IntKind.i64 n8, AV.int IntKind.i64 n9, AV.int IntKind.i64 n10] = [AV.str s0, AV.int IntKind.i64 n1, AV.int IntKind.i64 n2, AV.int IntKind.i64 n3, AV.int IntKind.i64 n4, AV.int IntKind.i64 n5, AV.int IntKind.i64 n6, AV.int IntKind.i64 n7, AV.int IntKind.i64 n8, AV.int IntKind.i64 n9, AV.int IntKind.i64 n10] ∧ ∃ k58, k58 < m41 ∧ I39 k58 [AV.bool b54, AV.int IntKind.i64 (IntKind.i64.wrap (n43 + (1 : Int)))]) ∧ True) ∧ (b42 = false → f.cs = f.cs ∧ [AV.str s0, AV.int IntKind.i64 n1, AV.int IntKind.i64 n2, AV.int IntKind.i64 n3, AV.int IntKind.i64 n4, AV.int IntKind.i64 n5, AV.int IntKind.i64 n6, AV.int IntKind.i64 n7, AV.int IntKind.i64 n8, AV.int IntKind.i64 n9, AV.int IntKind.i64 n10] = [AV.str s0, AV.int IntKind.i64 n1, AV.int IntKind.i64 n2, AV.int IntKind.i64 n3, AV.int IntKind.i64 n4, AV.int IntKind.i64 n5, AV.int IntKind.i64 n6, AV.int IntKind.i64 n7, AV.int IntKind.i64 n8, AV.int IntKind.i64 n9, AV.int IntKind.i64 n10] ∧ ∃ k51, k51 < m41 ∧ I39 k51 [AV.bool false, AV.int IntKind.i64 (IntKind.i64.wrap (n43 + (1 : Int)))])) ∧ (decide (n43 < (3 : Int)) = false → ((!b42) = true → Q (AV.int IntKind.i64 (7 : Int)) []) ∧ ((!b42) = false → Q (AV.int IntKind.i64 (0 : Int)) []))))))))
theorem r58 (f : TFeFeeder) (i : Int) (S : SpecF) (Fr : FuncId → List AV → Nat → List AV → Prop) (Sq : FuncId → List AV → List (List AV) → List (List AV) → Prop) (Q : AV → List (List AV) → Prop) : awpF Try.prog (mkS Try.prog S Fr Sq ⟨[], [], [], [], []⟩ 0) 0 ⟨[0, 1, 2, 4, 5, 6, 7, 8, 17, 20, 31, 33, 57, 83, 88, 100], [⟨5, [(6, .int .i64 0)], [], [], [], []⟩, ⟨17, [(7, .bool false), (8, .int .i64 0)], [], [], [], []⟩], [], []⟩ Try.f58 [f.av, .int .i64 i] [] Q = R58 f i S Fr Sq Q := by kernel_rfl
theorem s58 (f : TFeFeeder) (i : Int) (v : AV) (O : List (List AV)) (h : R58 f i (SpecOf Try.prog) (FreshOf Try.prog) (SeqOf Try.prog) (fun r O' => r = v ∧ O' = O)) : SpecOf Try.prog 58 [f.av, .int .i64 i] [] v O :=
  spec_by (boxes := []) mixed (by exact trivial) Try.func58 Try.call58 rfl rfl rfl (Nat.le_of_ble_eq_true rfl) (r58 f i (SpecOf Try.prog) (FreshOf Try.prog) (SeqOf Try.prog) _) h
theorem c58 (f : TFeFeeder) (i : Nat) (h1 : f.Cables.length ≤ 1000000) (h2 : f.Fuses.length ≤ 1000000) (hl : f.Nodes.length ≤ 1000000) (hi : i < f.Nodes.length) (hnm : ∀ x ∈ f.Nodes, x.Name.size ≤ 9223372036854775807) : Sp 58 [f.av, .int .i64 i] [] (.int .i64 (errAt TFeNode.Name (nodeS f.Cables.length f.Fuses.length) f.Nodes i)) [] := s58 f i _ _ (by
  unfold R58
  obtain ⟨x, hx, hx'⟩ := map_getN (f := TFeNode.av) hi
  have hat := errAt_some (nm := TFeNode.Name) (rest := nodeS f.Cables.length f.Fuses.length) hx
  refine ⟨x.Name, x.Parent, x.Cable, x.Length, x.Fuse, x.Loads0.Lo, x.Loads0.Hi, x.Loads1.Lo, x.Loads1.Hi, x.Loads2.Lo, x.Loads2.Hi, ⟨by omega, rfl, hx'⟩, _, c103 x.Name (hnm x (List.mem_of_getElem? hx)), fun h1 => ⟨?_, rfl⟩, fun g1 => ?_⟩
  · rw [hat, if_pos h1]
  have h1' : ¬ (!nameB x.Name) = true := by rw [g1]; simp
  refine ⟨fun m vs => ∃ k : Nat, k ≤ i ∧ m = i - k ∧ vs = [.int .i64 k] ∧ ((f.Nodes.take k).any fun y => twinB y.Name x.Name) = false, ⟨_, 0, by omega, rfl, rfl, rfl⟩, ?_⟩
  rintro m n ⟨k, hk, rfl, hv, ha⟩
  cases hv
  refine ⟨fun h2 => ?_, fun g2 => ?_⟩
  · have h2 : k < i := by simpa using h2
    obtain ⟨y, hy, hy'⟩ := map_getN (f := TFeNode.av) (l := f.Nodes) (k := k) (by omega)
    have hs := any_take (q := fun y : TFeNode => twinB y.Name x.Name) hy
    refine ⟨y.Name, y.Parent, y.Cable, y.Length, y.Fuse, y.Loads0.Lo, y.Loads0.Hi, y.Loads1.Lo, y.Loads1.Hi, y.Loads2.Lo, y.Loads2.Hi, ⟨by omega, rfl, hy'⟩, fun h3 => ⟨?_, rfl⟩, fun h3 => ?_⟩
    · have : ((f.Nodes.take i).any fun y => twinB y.Name x.Name) = true := List.any_eq_true.2 ⟨y, List.mem_of_getElem? (by rw [List.getElem?_take, if_pos h2]; exact hy), h3⟩
      rw [hat, if_neg h1', if_pos this]
    · repeat refine And.intro rfl ?_
      exact ⟨_, (by omega : i - (k + 1) < i - k), k + 1, by omega, rfl, by rw [wrapN (by omega)], by rw [hs, ha]; exact h3⟩
  · obtain rfl : k = i := by simp at g2; omega
    have he : errAt TFeNode.Name (nodeS f.Cables.length f.Fuses.length) f.Nodes k = nodeS f.Cables.length f.Fuses.length k x := by rw [hat, if_neg h1', if_neg (by rw [ha]; simp)]
    rw [he]
    simp only [List.length_map]
    refine ⟨fun h0 => ?_, fun h0 => ?_⟩
    · obtain rfl : k = 0 := by simp at h0; omega
      refine ⟨fun e1 => ⟨?_, trivial⟩, fun e1 => ⟨fun e2 => ⟨?_, trivial⟩, fun e2 => ⟨fun e3 => ⟨?_, trivial⟩, fun e3 => ⟨fun e4 => ⟨?_, trivial⟩, fun e4 => ⟨fun e5 => ⟨?_, trivial⟩, fun e5 => ⟨?_, trivial⟩⟩⟩⟩⟩⟩ <;> rw [nodeS, if_pos rfl] <;> first | (simp_all [blankB, zE]; done) | (simp_all [blankB, zE]; omega)
    · have hk0 : k ≠ 0 := by simp at h0; omega
      have e1 : IntKind.i64.wrap ((k : Int) - 1) = (k : Int) - 1 := i64 (by omega)
      have e2 : IntKind.i64.wrap ((f.Cables.length : Int) - 1) = (f.Cables.length : Int) - 1 := i64 (by omega)
      have e3 : IntKind.i64.wrap ((f.Fuses.length : Int) - 1) = (f.Fuses.length : Int) - 1 := i64 (by omega)
      rw [e1, e2, e3]
      have hn : nodeS f.Cables.length f.Fuses.length k x = if !(inB x.Parent 0 ((k : Int) - 1) && inB x.Cable 0 ((f.Cables.length : Int) - 1) && inB x.Fuse (-1) ((f.Fuses.length : Int) - 1)) then 4 else if !inB x.Length 1 5000 || [x.Loads0, x.Loads1, x.Loads2].any wildE then 7 else 0 := by rw [nodeS, if_neg hk0]
      rw [hn]
      refine ⟨_, c55 _ _ _, fun g1 => ⟨?_, trivial⟩, fun g1 => ⟨_, c55 _ _ _, fun g2 => ⟨?_, trivial⟩, fun g2 => ⟨_, c55 _ _ _, fun g3 => ⟨?_, trivial⟩, fun g3 => ⟨_, c55 _ _ _, ?_⟩⟩⟩⟩
      · rw [if_pos (by simp_all)]
      · rw [if_pos (by simp_all)]
      · rw [if_pos (by simp_all)]
      have hok : ¬ (!(inB x.Parent 0 ((k : Int) - 1) && inB x.Cable 0 ((f.Cables.length : Int) - 1) && inB x.Fuse (-1) ((f.Fuses.length : Int) - 1))) = true := by simp_all
      rw [if_neg hok]
      refine ⟨fun m vs => ∃ j : Nat, j ≤ 3 ∧ m = 3 - j ∧ vs = [.bool (inB x.Length 1 5000 && !([x.Loads0, x.Loads1, x.Loads2].take j).any wildE), .int .i64 j], ⟨_, 0, by omega, rfl, by simp⟩, ?_⟩
      rintro m b n ⟨j, hj, rfl, hv⟩
      cases hv
      refine ⟨fun h4 => ?_, fun h4 => ?_⟩
      · have h4 : j < 3 := by simp at h4; omega
        have hw : IntKind.i64.wrap ((j : Int) + 1) = ((j + 1 : Nat) : Int) := wrapN (by omega)
        rw [hw]
        have fin : ∀ b : Bool, b = (inB x.Length 1 5000 && !([x.Loads0, x.Loads1, x.Loads2].take (j + 1)).any wildE) → ∃ m', m' < 3 - j ∧ ∃ j' : Nat, j' ≤ 3 ∧ m' = 3 - j' ∧ [AV.bool b, .int .i64 ((j + 1 : Nat) : Int)] = [.bool (inB x.Length 1 5000 && !([x.Loads0, x.Loads1, x.Loads2].take j').any wildE), .int .i64 j'] := fun b hb =>
          ⟨_, (by omega : 3 - (j + 1) < 3 - j), j + 1, by omega, rfl, by rw [hb]⟩
        refine ⟨fun q1 => ⟨⟨by omega, by omega⟩, fun q2 => ⟨_, c54 x.Loads2 _ _, ?_⟩, fun q2 => ⟨_, c54 x.Loads1 _ _, ?_⟩, fun q2 => ⟨_, c54 x.Loads0 _ _, ?_⟩, trivial⟩, fun q1 => ?_⟩
        · obtain rfl : j = 2 := by omega
          have hh : wiB x.Loads2 0 1000000 = (inB x.Length 1 5000 && !([x.Loads0, x.Loads1, x.Loads2].take (2 + 1)).any wildE) := by
            simp only [Bool.and_eq_true, Bool.not_eq_true'] at q1
            rw [q1.1]
            have q := q1.2
            simp [wildE] at q ⊢
            try simp [q]
          first | exact fin _ hh | exact ⟨trivial, fin _ hh⟩ | exact ⟨trivial, trivial, fin _ hh⟩ | exact ⟨trivial, trivial, trivial, fin _ hh⟩
        · obtain rfl : j = 1 := by omega
          have hh : wiB x.Loads1 0 1000000 = (inB x.Length 1 5000 && !([x.Loads0, x.Loads1, x.Loads2].take (1 + 1)).any wildE) := by
            simp only [Bool.and_eq_true, Bool.not_eq_true'] at q1
            rw [q1.1]
            have q := q1.2
            simp [wildE] at q ⊢
            try simp [q]
          first | exact fin _ hh | exact ⟨trivial, fin _ hh⟩ | exact ⟨trivial, trivial, fin _ hh⟩ | exact ⟨trivial, trivial, trivial, fin _ hh⟩
        · obtain rfl : j = 0 := by omega
          have hh : wiB x.Loads0 0 1000000 = (inB x.Length 1 5000 && !([x.Loads0, x.Loads1, x.Loads2].take (0 + 1)).any wildE) := by
            simp only [Bool.and_eq_true, Bool.not_eq_true'] at q1
            rw [q1.1]
            have q := q1.2
            simp [wildE] at q ⊢
            try simp [q]
          first | exact fin _ hh | exact ⟨trivial, fin _ hh⟩ | exact ⟨trivial, trivial, fin _ hh⟩ | exact ⟨trivial, trivial, trivial, fin _ hh⟩
        · have hh : false = (inB x.Length 1 5000 && !([x.Loads0, x.Loads1, x.Loads2].take (j + 1)).any wildE) := by
           cases hr : inB x.Length 1 5000
           · rfl
           · rw [hr] at q1
             have hat : ([x.Loads0, x.Loads1, x.Loads2].take j).any wildE = true := by simpa using q1
             obtain ⟨y, hy, hyw⟩ := List.any_eq_true.1 hat
             have : ([x.Loads0, x.Loads1, x.Loads2].take (j + 1)).any wildE = true := List.any_eq_true.2 ⟨y, List.take_subset_take_left _ (Nat.le_succ j) hy, hyw⟩
             rw [this]; rfl
          first | exact fin _ hh | exact ⟨trivial, fin _ hh⟩ | exact ⟨trivial, trivial, fin _ hh⟩ | exact ⟨trivial, trivial, trivial, fin _ hh⟩
      · obtain rfl : j = 3 := by simp at h4; omega
        have e : [x.Loads0, x.Loads1, x.Loads2].take 3 = [x.Loads0, x.Loads1, x.Loads2] := rfl
        rw [e]
        cases inB x.Length 1 5000 <;> cases [x.Loads0, x.Loads1, x.Loads2].any wildE <;> simp)
end Go.Proofs.Ytbdbnpnichkcjaa

/- The law NodeReports, by contracts. -/
import Derived.Test.YtdaanpgdjjodcaaR
namespace Go.Proofs.Ytdaanpgdjjodcaa
open Go.RowKit
theorem flatS (s : List TSent) : elemsOf 5 (s.map TSent.av) ∧ ((s.map TSent.av).flatMap AV.cells).length = s.length * 5 ∧ ones ((s.map TSent.av).flatMap AV.cells) = true ∧ chunkA 5 s.length ((s.map TSent.av).flatMap AV.cells) = s.map TSent.av :=
  flat_map (g := TSent.cs) (fun _ => rfl) (fun _ => rfl) (fun _ => rfl) s
theorem agg76 : isAggT Try.prog 76 = true := by kernel_rfl
theorem chunkS (s : List TSent) : chunks 5 (isAggT Try.prog 76) (List.map TSent.av s).length (List.drop 0 (List.flatMap AV.cells (List.map TSent.av s))) = List.map TSent.av s := by
  rw [agg76, List.length_map]; simp only [chunks, if_true, List.drop_zero]; exact (flatS s).2.2.2
theorem set_flatS (r : TSent) : ∀ (view : List TSent) (k : Nat), k < view.length → setCells ((view.map TSent.av).flatMap AV.cells) (k * 5) r.cs = ((view.set k r).map TSent.av).flatMap AV.cells := by
  intro view
  induction view with
  | nil => intro k hk; simp at hk
  | cons x v ih =>
    intro k hk
    have hx : x.av.cells = x.cs := rfl
    have hl : x.cs.length = 5 := rfl
    have hr : r.cs.length = 5 := rfl
    cases k with
    | zero => simp only [Nat.zero_mul, setCells, List.take_zero, List.nil_append, Nat.zero_add, hr, List.map_cons, List.flatMap_cons, hx, List.set_cons_zero, List.drop_append_of_le_length (Nat.le_of_eq hl.symm), List.drop_of_length_le (Nat.le_of_eq hl)]; rfl
    | succ k =>
      have hk' : k < v.length := by simpa using hk
      have := ih k hk'
      simp only [setCells] at this ⊢
      have e : (k + 1) * 5 = x.cs.length + k * 5 := by rw [hl]; omega
      have e2 : (k + 1) * 5 + r.cs.length = x.cs.length + (k * 5 + r.cs.length) := by omega
      simp only [List.map_cons, List.flatMap_cons, hx, List.set_cons_succ]
      rw [e2, e, List.take_length_add_append, List.drop_length_add_append, List.append_assoc, this]
theorem drop_flatS : ∀ (l : List TSent) (i : Nat) (x : TSent), l[i]? = some x → (((l.map TSent.av).flatMap AV.cells).drop (i * 5)).take 5 = x.cs := by
  intro l
  induction l with
  | nil => intro i x h; simp at h
  | cons y l ih =>
    intro i x h
    have hy : y.av.cells = y.cs := rfl
    have hl : y.cs.length = 5 := rfl
    simp only [List.map_cons, List.flatMap_cons, hy]
    cases i with
    | zero => simp only [List.getElem?_cons_zero, Option.some.injEq] at h; subst h; rfl
    | succ i =>
      have e : (i + 1) * 5 = y.cs.length + i * 5 := by rw [hl]; omega
      rw [e, List.drop_length_add_append]
      exact ih i x (by simpa using h)
theorem part76 (cs : List AV) (off : Nat) : partA Try.prog 76 cs off = if off + 5 ≤ cs.length then some (.agg ((cs.drop off).take 5)) else none := by kernel_rfl
theorem getS {l : List TSent} {i : Nat} {x : TSent} (h : l[i]? = some x) : Option.map AV.norm (partA Try.prog 76 (List.flatMap AV.cells (List.map TSent.av l)) (0 + i * 5)) = some x.av := by
  have hi := (List.getElem?_eq_some_iff.1 h).1
  rw [part76, Nat.zero_add, if_pos (by rw [(flatS l).2.1]; omega), drop_flatS l i x h]; rfl
theorem swap_mem {l : List TSent} {p q : Nat} {x y : TSent} (hp : l[p]? = some x) (hq : l[q]? = some y) (s : TSent) : s ∈ l ↔ s ∈ (l.set p y).set q x := by
  have hpl := (List.getElem?_eq_some_iff.1 hp).1
  have hql := (List.getElem?_eq_some_iff.1 hq).1
  constructor
  · intro h
    obtain ⟨j, hj⟩ := List.mem_iff_getElem?.1 h
    by_cases h1 : j = p
    · subst h1
      rw [hp] at hj; cases hj
      exact List.mem_iff_getElem?.2 ⟨q, by rw [List.getElem?_set_self (by simpa using hql)]⟩
    · by_cases h2 : j = q
      · subst h2
        rw [hq] at hj; cases hj
        exact List.mem_iff_getElem?.2 ⟨p, by rw [List.getElem?_set_ne h1, List.getElem?_set_self hpl]⟩
      · exact List.mem_iff_getElem?.2 ⟨j, by rw [List.getElem?_set_ne (Ne.symm h2), List.getElem?_set_ne (Ne.symm h1)]; exact hj⟩
  · intro h
    rcases List.mem_or_eq_of_mem_set h with h | rfl
    · rcases List.mem_or_eq_of_mem_set h with h | rfl
      · exact h
      · exact List.mem_iff_getElem?.2 ⟨q, hq⟩
    · exact List.mem_iff_getElem?.2 ⟨p, hp⟩
def CF (x y : TSent) : Prop := x.Node = y.Node → x.R.Count = y.R.Count → x.R = y.R
def NoC (l : List TSent) (i : Nat) : Prop := ∀ (a b : Nat) (x y : TSent), a < b → b < i → l[a]? = some x → l[b]? = some y → CF x y
theorem noC_all {l : List TSent} (h : NoC l l.length) : ∀ s ∈ l, ∀ t ∈ l, s.Node = t.Node → s.R.Count = t.R.Count → s.R = t.R := by
  intro s hs t ht h1 h2
  obtain ⟨a, ha⟩ := List.mem_iff_getElem?.1 hs
  obtain ⟨b, hb⟩ := List.mem_iff_getElem?.1 ht
  have hal := (List.getElem?_eq_some_iff.1 ha).1
  have hbl := (List.getElem?_eq_some_iff.1 hb).1
  rcases Nat.lt_trichotomy a b with hab | hab | hab
  · exact h a b s t hab hbl ha hb h1 h2
  · subst hab; rw [ha] at hb; cases hb; rfl
  · exact (h b a t s hab hal hb ha h1.symm h2.symm).symm
theorem tmod_in {n : Int} {k : Nat} (h0 : 0 ≤ n) (hk : (k : Int) ≠ 0) : 0 ≤ n.tmod k ∧ n.tmod k < k := ⟨Int.tmod_nonneg _ h0, Int.tmod_lt_of_pos _ (by have := Int.natCast_nonneg k; omega)⟩
def R10 (view : List TNdReport) (l : List TSent) (swaps : List (Int × Int)) (S : SpecF) (Fr : FuncId → List AV → Nat → List AV → Prop) (Q : AV → List (List AV) → Prop) : Prop :=
  (decide ((↑(List.map TNdReport.av view).length : Int) > (60 : Int)) = true → ∃ b2, S (16 : Nat) [] [] (AV.bool b2) [] ∧ Q (AV.bool b2) []) ∧ (decide ((↑(List.map TNdReport.av view).length : Int) > (60 : Int)) = false → (decide ((↑(List.map TSent.av l).length : Int) > (12 : Int)) = true → ∃ b4, S (16 : Nat) [] [] (AV.bool b4) [] ∧ Q (AV.bool b4) []) ∧ (decide ((↑(List.map TSent.av l).length : Int) > (12 : Int)) = false → ∃ (I4 : Nat → List AV → Prop), (∃ m6, I4 m6 [AV.int IntKind.i64 (0 : Int)]) ∧ ∀ (m6 : Nat) (n7 : Int), I4 m6 [AV.int IntKind.i64 n7] → (decide (n7 < (↑(List.map TSent.av l).length : Int)) = true → ∃ (I11 : Nat → List AV → Prop), (∃ m13, I11 m13 [AV.int IntKind.i64 (0 : Int)]) ∧ ∀ (m13 : Nat) (n14 : Int), I11 m13 [AV.int IntKind.i64 n14] → (decide (n14 < n7) = true → ∃ n18 n19 n20 n21 b22, ((0 : Int) ≤ n14 ∧ (5 : Nat) = (5 : Nat) ∧ (List.map TSent.av l)[n14.toNat]? = some (AV.agg [AV.int IntKind.i64 n18, AV.int IntKind.i64 n19, AV.int IntKind.i64 n20, AV.int IntKind.i64 n21, AV.bool b22])) ∧ ∃ n24 n25 n26 n27 b28, ((0 : Int) ≤ n7 ∧ (5 : Nat) = (5 : Nat) ∧ (List.map TSent.av l)[n7.toNat]? = some (AV.agg [AV.int IntKind.i64 n24, AV.int IntKind.i64 n25, AV.int IntKind.i64 n26, AV.int IntKind.i64 n27, AV.bool b28])) ∧ ((n18 == n24) = true → ∃ n32 n33 n34 n35 b36, ((0 : Int) ≤ n14 ∧ (5 : Nat) = (5 : Nat) ∧ (List.map TSent.av l)[n14.toNat]? = some (AV.agg [AV.int IntKind.i64 n32, AV.int IntKind.i64 n33, AV.int IntKind.i64 n34, AV.int IntKind.i64 n35, AV.bool b36])) ∧ ∃ n38 n39 n40 n41 b42, ((0 : Int) ≤ n7 ∧ (5 : Nat) = (5 : Nat) ∧ (List.map TSent.av l)[n7.toNat]? = some (AV.agg [AV.int IntKind.i64 n38, AV.int IntKind.i64 n39, AV.int IntKind.i64 n40, AV.int IntKind.i64 n41, AV.bool b42])) ∧ ((n33 == n39) = true → ∃ n46 n47 n48 n49 b50, ((0 : Int) ≤ n14 ∧ (5 : Nat) = (5 : Nat) ∧ (List.map TSent.av l)[n14.toNat]? = some (AV.agg [AV.int IntKind.i64 n46, AV.int IntKind.i64 n47, AV.int IntKind.i64 n48, AV.int IntKind.i64 n49, AV.bool b50])) ∧ ∃ n52 n53 n54 n55 b56, ((0 : Int) ≤ n7 ∧ (5 : Nat) = (5 : Nat) ∧ (List.map TSent.av l)[n7.toNat]? = some (AV.agg [AV.int IntKind.i64 n52, AV.int IntKind.i64 n53, AV.int IntKind.i64 n54, AV.int IntKind.i64 n55, AV.bool b56])) ∧ ((!(n47 == n53 && (n48 == n54 && (n49 == n55 && (b50 == b56 && true))))) = true → ∃ b60, S (16 : Nat) [] [] (AV.bool b60) [] ∧ Q (AV.bool b60) []) ∧ ((!(n47 == n53 && (n48 == n54 && (n49 == n55 && (b50 == b56 && true))))) = false → ∃ k60, k60 < m13 ∧ I11 k60 [AV.int IntKind.i64 (IntKind.i64.wrap (n14 + (1 : Int)))])) ∧ ((n33 == n39) = false → ∃ k46, k46 < m13 ∧ I11 k46 [AV.int IntKind.i64 (IntKind.i64.wrap (n14 + (1 : Int)))])) ∧ ((n18 == n24) = false → ∃ k32, k32 < m13 ∧ I11 k32 [AV.int IntKind.i64 (IntKind.i64.wrap (n14 + (1 : Int)))])) ∧ (decide (n14 < n7) = false → ∃ k18, k18 < m6 ∧ I4 k18 [AV.int IntKind.i64 (IntKind.i64.wrap (n7 + (1 : Int)))])) ∧ (decide (n7 < (↑(List.map TSent.av l).length : Int)) = false → elemsOf (5 : Nat) (List.map TSent.av l) ∧ ((([] : List AV) = [] ∨ (0 : Nat) < (List.map TSent.av l).length) ∧ ((0 : Nat) + (List.map TSent.av l).length + (200 : Nat)) * (41 : Nat) ≤ (70368744177664 : Nat) ∧ elemsOf (5 : Nat) [] ∧ ones (List.flatMap AV.cells (List.map TSent.av l)) = true ∧ ones [] = true) ∧ ∃ (J13 : List AV → Prop), (∃ (I15 : Nat → List AV → Prop), (∃ es17, (es17.length = (0 : Nat) + (List.map TSent.av l).length ∧ List.flatMap AV.cells es17 = [] ++ List.flatMap AV.cells (List.map TSent.av l)) ∧ ∃ m19, I15 m19 [AV.int IntKind.i64 (0 : Int), AV.slc (3 : Nat) es17]) ∧ ∀ (m17 : Nat) (n18 : Int) (es19 : List AV), I15 m17 [AV.int IntKind.i64 n18, AV.slc (3 : Nat) es19] → (decide (n18 < (↑(List.map (fun x => AV.agg [AV.int IntKind.u8 x.fst, AV.int IntKind.u8 x.snd]) swaps).length : Int)) = true → (decide ((↑es19.length : Int) > (0 : Int)) = true → (decide (n18 < (30 : Int)) = true → ∃ n27 n28, ((0 : Int) ≤ n18 ∧ (2 : Nat) = (2 : Nat) ∧ (List.map (fun x => AV.agg [AV.int IntKind.u8 x.fst, AV.int IntKind.u8 x.snd]) swaps)[n18.toNat]? = some (AV.agg [AV.int IntKind.u8 n27, AV.int IntKind.u8 n28])) ∧ (↑es19.length : Int) ≠ (0 : Int) ∧ ∃ n31 n32, ((0 : Int) ≤ n18 ∧ (2 : Nat) = (2 : Nat) ∧ (List.map (fun x => AV.agg [AV.int IntKind.u8 x.fst, AV.int IntKind.u8 x.snd]) swaps)[n18.toNat]? = some (AV.agg [AV.int IntKind.u8 n31, AV.int IntKind.u8 n32])) ∧ (↑es19.length : Int) ≠ (0 : Int) ∧ ((0 : Int) ≤ (IntKind.i64.wrap n32).tmod (↑es19.length : Int) ∧ (IntKind.i64.wrap n32).tmod (↑es19.length : Int) < (↑es19.length : Int) ∧ (5 : Nat) = (5 : Nat)) ∧ ∃ n36 n37 n38 n39 b40, Option.map AV.norm (partA Try.prog (76 : Nat) (List.flatMap AV.cells es19) ((0 : Nat) + ((IntKind.i64.wrap n32).tmod (↑es19.length : Int)).toNat * (5 : Nat))) = some (AV.agg [AV.int IntKind.i64 n36, AV.int IntKind.i64 n37, AV.int IntKind.i64 n38, AV.int IntKind.i64 n39, AV.bool b40]) ∧ ((0 : Int) ≤ (IntKind.i64.wrap n27).tmod (↑es19.length : Int) ∧ (IntKind.i64.wrap n27).tmod (↑es19.length : Int) < (↑es19.length : Int) ∧ (5 : Nat) = (5 : Nat)) ∧ ∃ n43 n44 n45 n46 b47, Option.map AV.norm (partA Try.prog (76 : Nat) (List.flatMap AV.cells es19) ((0 : Nat) + ((IntKind.i64.wrap n27).tmod (↑es19.length : Int)).toNat * (5 : Nat))) = some (AV.agg [AV.int IntKind.i64 n43, AV.int IntKind.i64 n44, AV.int IntKind.i64 n45, AV.int IntKind.i64 n46, AV.bool b47]) ∧ ((0 : Int) ≤ (IntKind.i64.wrap n27).tmod (↑es19.length : Int) ∧ (IntKind.i64.wrap n27).tmod (↑es19.length : Int) < (↑es19.length : Int) ∧ (5 : Nat) = (5 : Nat)) ∧ (0 : Nat) + ((IntKind.i64.wrap n27).tmod (↑es19.length : Int)).toNat * (5 : Nat) + (5 : Nat) ≤ (List.flatMap AV.cells es19).length ∧ ((0 : Int) ≤ (IntKind.i64.wrap n32).tmod (↑es19.length : Int) ∧ (IntKind.i64.wrap n32).tmod (↑es19.length : Int) < (↑es19.length : Int) ∧ (5 : Nat) = (5 : Nat)) ∧ (0 : Nat) + ((IntKind.i64.wrap n32).tmod (↑es19.length : Int)).toNat * (5 : Nat) + (5 : Nat) ≤ (setCells (List.flatMap AV.cells es19) ((0 : Nat) + ((IntKind.i64.wrap n27).tmod (↑es19.length : Int)).toNat * (5 : Nat)) [AV.int IntKind.i64 n36, AV.int IntKind.i64 n37, AV.int IntKind.i64 n38, AV.int IntKind.i64 n39, AV.bool b40]).length ∧ ∃ es53, (es53.length = es19.length ∧ List.flatMap AV.cells es53 = setCells (setCells (List.flatMap AV.cells es19) ((0 : Nat) + ((IntKind.i64.wrap n27).tmod (↑es19.length : Int)).toNat * (5 : Nat)) [AV.int IntKind.i64 n36, AV.int IntKind.i64 n37, AV.int IntKind.i64 n38, AV.int IntKind.i64 n39, AV.bool b40]) ((0 : Nat) + ((IntKind.i64.wrap n32).tmod (↑es19.length : Int)).toNat * (5 : Nat)) [AV.int IntKind.i64 n43, AV.int IntKind.i64 n44, AV.int IntKind.i64 n45, AV.int IntKind.i64 n46, AV.bool b47]) ∧ ∃ k55, k55 < m17 ∧ I15 k55 [AV.int IntKind.i64 (IntKind.i64.wrap (n18 + (1 : Int))), AV.slc (3 : Nat) es53]) ∧ (decide (n18 < (30 : Int)) = false → ∃ es27, (es27.length = es19.length ∧ List.flatMap AV.cells es27 = List.flatMap AV.cells es19) ∧ J13 [AV.slc (3 : Nat) es27])) ∧ (decide ((↑es19.length : Int) > (0 : Int)) = false → ∃ es25, (es25.length = es19.length ∧ List.flatMap AV.cells es25 = List.flatMap AV.cells es19) ∧ J13 [AV.slc (3 : Nat) es25])) ∧ (decide (n18 < (↑(List.map (fun x => AV.agg [AV.int IntKind.u8 x.fst, AV.int IntKind.u8 x.snd]) swaps).length : Int)) = false → ∃ es23, (es23.length = es19.length ∧ List.flatMap AV.cells es23 = List.flatMap AV.cells es19) ∧ J13 [AV.slc (3 : Nat) es23])) ∧ ∀ (es15 : List AV), J13 [AV.slc (3 : Nat) es15] → (0 : Nat) + es15.length * (5 : Nat) ≤ (List.flatMap AV.cells es15).length ∧ ∃ es18, S (34 : Nat) [AV.slc (3 : Nat) (List.map TNdReport.av view), AV.slc (3 : Nat) (List.map TSent.av l)] [] (AV.slc (3 : Nat) es18) [] ∧ ∃ es20, S (34 : Nat) [AV.slc (3 : Nat) (List.map TNdReport.av view), AV.slc (3 : Nat) (chunks (5 : Nat) (isAggT Try.prog (76 : Nat)) es15.length (List.drop (0 : Nat) (List.flatMap AV.cells es15)))] [] (AV.slc (3 : Nat) es20) [] ∧ ∃ b22, S (33 : Nat) [AV.slc (3 : Nat) es18, AV.slc (3 : Nat) es20] [] (AV.bool b22) [] ∧ ((!b22) = true → Q (AV.bool false) []) ∧ ((!b22) = false → ∃ es26, S (34 : Nat) [AV.slc (3 : Nat) es18, AV.slc (3 : Nat) (chunks (5 : Nat) (isAggT Try.prog (76 : Nat)) es15.length (List.drop (0 : Nat) (List.flatMap AV.cells es15)))] [] (AV.slc (3 : Nat) es26) [] ∧ ∃ b28, S (33 : Nat) [AV.slc (3 : Nat) es18, AV.slc (3 : Nat) es26] [] (AV.bool b28) [] ∧ ((!b28) = true → Q (AV.bool false) []) ∧ ((!b28) = false → (((↑es18.length : Int) != (↑(List.map TNdReport.av view).length : Int)) = true → Q (AV.bool false) []) ∧ (((↑es18.length : Int) != (↑(List.map TNdReport.av view).length : Int)) = false → ∃ (I34 : Nat → List AV → Prop), (∃ m36, I34 m36 [AV.int IntKind.i64 (0 : Int)]) ∧ ∀ (m36 : Nat) (n37 : Int), I34 m36 [AV.int IntKind.i64 n37] → (decide (n37 < (↑es18.length : Int)) = true → ∃ n41 n42 n43 b44, ((0 : Int) ≤ n37 ∧ (4 : Nat) = (4 : Nat) ∧ es18[n37.toNat]? = some (AV.agg [AV.int IntKind.i64 n41, AV.int IntKind.i64 n42, AV.int IntKind.i64 n43, AV.bool b44])) ∧ ∃ n46 n47 n48 b49, ((0 : Int) ≤ n37 ∧ (4 : Nat) = (4 : Nat) ∧ (List.map TNdReport.av view)[n37.toNat]? = some (AV.agg [AV.int IntKind.i64 n46, AV.int IntKind.i64 n47, AV.int IntKind.i64 n48, AV.bool b49])) ∧ (decide (n41 < n46) = true → Q (AV.bool false) []) ∧ (decide (n41 < n46) = false → ∃ k53, k53 < m36 ∧ I34 k53 [AV.int IntKind.i64 (IntKind.i64.wrap (n37 + (1 : Int)))])) ∧ (decide (n37 < (↑es18.length : Int)) = false → ∃ b41, S (16 : Nat) [] [] (AV.bool b41) [] ∧ Q (AV.bool b41) [])))))))
theorem r10 (view : List TNdReport) (l : List TSent) (swaps : List (Int × Int)) (S : SpecF) (Fr : FuncId → List AV → Nat → List AV → Prop) (Q : AV → List (List AV) → Prop) : awpF Try.prog ⟨S, Fr, ⟨[], [], [33, 34]⟩⟩ 0 ⟨[0, 1, 2, 6, 7, 8, 9, 10, 11, 12, 13, 14, 15, 23, 28, 33, 74, 91, 150, 154, 167], [⟨4, [(7, .int .i64 0)], [], []⟩, ⟨7, [(8, .int .i64 0)], [], []⟩, ⟨13, [(10, .int .i64 0)], [(9, 76)], []⟩, ⟨21, [(15, .int .i64 0)], [], []⟩], [⟨17, [], [(9, 76)], []⟩], [(17, 9)]⟩ Try.f10 [.slc 3 (List.map TNdReport.av view), .slc 3 (List.map TSent.av l), .slc 3 (List.map (fun x => .agg [.int .u8 x.1, .int .u8 x.2]) swaps)] [] Q = R10 view l swaps S Fr Q := by kernel_rfl
theorem s10 (view : List TNdReport) (l : List TSent) (swaps : List (Int × Int)) (v : AV) (O : List (List AV)) (h : R10 view l swaps (SpecOf Try.prog) (FreshOf Try.prog) (fun r O' => r = v ∧ O' = O)) : SpecOf Try.prog 10 [.slc 3 (List.map TNdReport.av view), .slc 3 (List.map TSent.av l), .slc 3 (List.map (fun x => .agg [.int .u8 x.1, .int .u8 x.2]) swaps)] [] v O :=
  spec_by (boxes := []) mixed Try.func10 Try.call10 rfl rfl rfl (Nat.le_of_ble_eq_true rfl) (r10 view l swaps (SpecOf Try.prog) (FreshOf Try.prog) _) h
theorem c10 (view : List TNdReport) (l : List TSent) (swaps : List (Int × Int)) (hsw : ∀ x ∈ swaps, (0 ≤ x.1 ∧ x.1 ≤ 255) ∧ (0 ≤ x.2 ∧ x.2 ≤ 255)) :
    Sp 10 [.slc 3 (List.map TNdReport.av view), .slc 3 (List.map TSent.av l), .slc 3 (List.map (fun x => .agg [.int .u8 x.1, .int .u8 x.2]) swaps)] [] (.bool true) [] := s10 view l swaps _ _ (by
  refine ⟨fun _ => ⟨_, c16, rfl, rfl⟩, fun hv => ⟨fun _ => ⟨_, c16, rfl, rfl⟩, fun hl => ?_⟩⟩
  have hv : ¬ 60 < view.length := by have h := of_decide_eq_false hv; rw [List.length_map] at h; omega
  have hl : l.length ≤ 12 := by have h := of_decide_eq_false hl; rw [List.length_map] at h; omega
  refine ⟨fun m vs => ∃ i : Nat, i ≤ l.length ∧ m = l.length - i ∧ vs = [.int .i64 i] ∧ NoC l i, ⟨_, 0, by omega, rfl, rfl, fun a b x y _ h => by omega⟩, ?_⟩
  rintro m n ⟨i, hi, rfl, hvs, hno⟩
  cases hvs
  refine ⟨fun h3 => ?_, fun h3 => ?_⟩
  · have h3 : i < l.length := by simpa using h3
    obtain ⟨y, hy, hy'⟩ := map_get (f := TSent.av) (l := l) (n := (i : Int)) (by omega) (by omega)
    have hy : l[i]? = some y := by simpa using hy
    refine ⟨fun m vs => ∃ k : Nat, k ≤ i ∧ m = i - k ∧ vs = [.int .i64 k] ∧ ∀ (a : Nat) (z : TSent), a < k → l[a]? = some z → CF z y, ⟨_, 0, by omega, rfl, rfl, fun a z h => by omega⟩, ?_⟩
    rintro m n ⟨k, hk, rfl, hvs, hin⟩
    cases hvs
    refine ⟨fun h4 => ?_, fun h4 => ?_⟩
    · have h4 : k < i := by simpa using h4
      obtain ⟨x, hx, hx'⟩ := map_get (f := TSent.av) (l := l) (n := (k : Int)) (by omega) (by omega)
      have hx : l[k]? = some x := by simpa using hx
      have hstep : CF x y → ∃ j, j < i - k ∧ ∃ k' : Nat, k' ≤ i ∧ j = i - k' ∧ ([.int .i64 (IntKind.i64.wrap ((k : Int) + 1))] : List AV) = [.int .i64 k'] ∧ ∀ (a : Nat) (z : TSent), a < k' → l[a]? = some z → CF z y := by
        intro hc
        refine ⟨i - (k + 1), by omega, k + 1, by omega, rfl, by rw [wrap1 (m := i) (by omega) (by omega) (by omega)]; rfl, fun a z ha hz => ?_⟩
        by_cases hak : a = k
        · subst hak; rw [hx] at hz; cases hz; exact hc
        · exact hin a z (by omega) hz
      refine ⟨_, _, _, _, _, ⟨by omega, rfl, hx'⟩, _, _, _, _, _, ⟨by omega, rfl, hy'⟩, fun h5 => ⟨_, _, _, _, _, ⟨by omega, rfl, hx'⟩, _, _, _, _, _, ⟨by omega, rfl, hy'⟩, fun h6 => ⟨_, _, _, _, _, ⟨by omega, rfl, hx'⟩, _, _, _, _, _, ⟨by omega, rfl, hy'⟩, fun _ => ⟨_, c16, rfl, rfl⟩, fun h7 => ?_⟩, fun h6 => ?_⟩, fun h5 => ?_⟩
      · rw [rep_eq] at h7
        exact hstep fun _ _ => by simpa using h7
      · exact hstep fun _ h => absurd h (by simpa using h6)
      · exact hstep fun h _ => absurd h (by simpa using h5)
    · have h4 : i ≤ k := by simpa using h4
      have hik : k = i := by omega
      subst hik
      refine ⟨l.length - (k + 1), by omega, k + 1, by omega, rfl, by rw [wrap1 (m := l.length) (by omega) (by omega) (by omega)]; rfl, fun a b x z hab hb hx hz => ?_⟩
      by_cases hbk : b = k
      · subst hbk; rw [hy] at hz; cases hz; exact hin a x hab hx
      · exact hno a b x z hab (by omega) hx hz
  have h3 : l.length ≤ i := by simpa using h3
  have hil : i = l.length := by omega
  subst hil
  have hno := noC_all hno
  refine ⟨(flatS l).1, ⟨.inl rfl, by rw [List.length_map]; omega, fun v hv => by simp at hv, (flatS l).2.2.1, rfl⟩, fun vs => ∃ ml : List TSent, vs = [.slc 3 (List.map TSent.av ml)] ∧ ml.length = l.length ∧ ∀ s, s ∈ l ↔ s ∈ ml, ?_, ?_⟩
  · refine ⟨fun m vs => ∃ (i : Nat) (ml : List TSent), i ≤ 30 ∧ m = 30 - i ∧ vs = [.int .i64 i, .slc 3 (List.map TSent.av ml)] ∧ ml.length = l.length ∧ ∀ s, s ∈ l ↔ s ∈ ml,
      ⟨_, ⟨by simp, rfl⟩, _, 0, l, by omega, rfl, rfl, rfl, fun _ => .rfl⟩, ?_⟩
    rintro m n es ⟨i, ml, hi, rfl, hvs, hml, hmem⟩
    cases hvs
    have hJ : ∃ es' : List AV, (es'.length = (List.map TSent.av ml).length ∧ List.flatMap AV.cells es' = List.flatMap AV.cells (List.map TSent.av ml)) ∧
        ∃ ml' : List TSent, ([.slc 3 es'] : List AV) = [.slc 3 (List.map TSent.av ml')] ∧ ml'.length = l.length ∧ ∀ s, s ∈ l ↔ s ∈ ml' := ⟨_, ⟨rfl, rfl⟩, ml, rfl, hml, hmem⟩
    refine ⟨fun h4 => ⟨fun h5 => ⟨fun h6 => ?_, fun _ => hJ⟩, fun _ => hJ⟩, fun _ => hJ⟩
    have h4 : (i : Int) < swaps.length := by have h := of_decide_eq_true h4; rwa [List.length_map] at h
    have h5 : 0 < ml.length := by have h := of_decide_eq_true h5; rw [List.length_map] at h; omega
    have h6 : i < 30 := by have h := of_decide_eq_true h6; omega
    obtain ⟨w, hw, hw'⟩ := map_get (f := fun x : Int × Int => AV.agg [AV.int IntKind.u8 x.fst, AV.int IntKind.u8 x.snd]) (l := swaps) (n := (i : Int)) (by omega) h4
    have hwm : w ∈ swaps := List.mem_of_getElem? hw
    obtain ⟨⟨w1, w2⟩, w3, w4⟩ := hsw w hwm
    have e1 : IntKind.i64.wrap w.1 = w.1 := i64 (by omega)
    have e2 : IntKind.i64.wrap w.2 = w.2 := i64 (by omega)
    have hne : ((List.map TSent.av ml).length : Int) ≠ 0 := by rw [List.length_map]; omega
    obtain ⟨p1, p2⟩ := tmod_in w1 hne
    obtain ⟨q1, q2⟩ := tmod_in w3 hne
    have hp : (w.1.tmod ((List.map TSent.av ml).length : Int)).toNat < ml.length := by rw [List.length_map] at p2 ⊢; omega
    have hq : (w.2.tmod ((List.map TSent.av ml).length : Int)).toNat < ml.length := by rw [List.length_map] at q2 ⊢; omega
    have gp := List.getElem?_eq_getElem hp
    have gq := List.getElem?_eq_getElem hq
    have hlen := (flatS ml).2.1
    have s1 := set_flatS ml[(w.2.tmod ((List.map TSent.av ml).length : Int)).toNat] ml _ hp
    have s2 := set_flatS ml[(w.1.tmod ((List.map TSent.av ml).length : Int)).toNat] (ml.set (w.1.tmod ((List.map TSent.av ml).length : Int)).toNat ml[(w.2.tmod ((List.map TSent.av ml).length : Int)).toNat]) (w.2.tmod ((List.map TSent.av ml).length : Int)).toNat (by rw [List.length_set]; exact hq)
    refine ⟨w.1, w.2, ⟨by omega, rfl, hw'⟩, hne, w.1, w.2, ⟨by omega, rfl, hw'⟩, hne, ?_⟩
    rw [e1, e2]
    refine ⟨⟨q1, q2, rfl⟩, _, _, _, _, _, getS gq, ⟨p1, p2, rfl⟩, _, _, _, _, _, getS gp, ⟨p1, p2, rfl⟩, by rw [hlen]; omega, ⟨q1, q2, rfl⟩, ?_, ?_⟩
    · have := congrArg List.length s1
      simp only [Nat.zero_add] at this ⊢
      refine Nat.le_trans ?_ (Nat.le_of_eq this.symm)
      rw [(flatS _).2.1, List.length_set]; omega
    · refine ⟨List.map TSent.av ((ml.set (w.1.tmod ((List.map TSent.av ml).length : Int)).toNat ml[(w.2.tmod ((List.map TSent.av ml).length : Int)).toNat]).set (w.2.tmod ((List.map TSent.av ml).length : Int)).toNat ml[(w.1.tmod ((List.map TSent.av ml).length : Int)).toNat]), ⟨by simp, ?_⟩, 30 - (i + 1), by omega, i + 1, _, by omega, rfl, ?_, by simp [hml], fun s => (hmem s).trans (swap_mem gp gq s)⟩
      · simp only [Nat.zero_add]
        refine (s2.symm).trans ?_
        rw [← s1]; rfl
      · rw [wrap1 (m := 30) (by omega) (by omega) (by omega)]; rfl
  · rintro es ⟨ml, hvs, hml, hmem⟩
    cases hvs
    rw [chunkS]
    obtain ⟨e1, e2, e3, e4⟩ := reports_law (l := l) (m := ml) hv hmem hno
    have b1 : (mergedS view l == mergedS view ml) = true := by rw [← e1]; simp
    have b2 : (mergedS view l == mergedS (mergedS view l) ml) = true := by rw [e2]; simp
    have hl1 : (mergedS view l).length ≤ 60 := by omega
    refine ⟨by rw [(flatS ml).2.1, List.length_map]; omega, _, c34 view l (by omega), _, c34 view ml (by omega), _, c33 _ _ (by omega), fun h => ?_, fun _ => ⟨_, c34 _ ml (by omega), _, c33 _ _ (by omega), fun h => ?_, fun _ => ⟨fun h => ?_, fun _ => ?_⟩⟩⟩
    · rw [b1] at h; cases h
    · rw [b2] at h; cases h
    · simp [e3] at h
    refine ⟨fun m vs => ∃ k : Nat, k ≤ view.length ∧ m = view.length - k ∧ vs = [.int .i64 k], ⟨_, 0, by omega, rfl, rfl⟩, ?_⟩
    rintro m n ⟨k, hk, rfl, hvs⟩
    cases hvs
    refine ⟨fun h4 => ?_, fun _ => ⟨_, c16, rfl, rfl⟩⟩
    have h4 : k < (mergedS view l).length := by simpa using h4
    obtain ⟨b, hb, hb'⟩ := map_get (f := TNdReport.av) (l := mergedS view l) (n := (k : Int)) (by omega) (by omega)
    obtain ⟨a, ha, ha'⟩ := map_get (f := TNdReport.av) (l := view) (n := (k : Int)) (by omega) (by omega)
    have hab := e4 k a b (by simpa using ha) (by simpa using hb)
    refine ⟨_, _, _, _, ⟨by omega, rfl, hb'⟩, _, _, _, _, ⟨by omega, rfl, ha'⟩, fun h => ?_, fun _ => ⟨view.length - (k + 1), by omega, k + 1, by omega, rfl, by rw [wrap1 (m := view.length) (by omega) (by omega) (by omega)]; rfl⟩⟩
    have h := of_decide_eq_true h
    omega)
end Go.Proofs.Ytdaanpgdjjodcaa

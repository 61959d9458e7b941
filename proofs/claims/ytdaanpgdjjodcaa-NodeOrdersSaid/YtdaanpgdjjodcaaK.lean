/- Contracts: Merge of the program and of the reference; the law NodeMerges. -/
import Derived.Test.YtdaanpgdjjodcaaJ
namespace Go.Proofs.Ytdaanpgdjjodcaa
open Go.RowKit
theorem flatR (s : List TNdReport) : elemsOf 4 (s.map TNdReport.av) ∧ ((s.map TNdReport.av).flatMap AV.cells).length = s.length * 4 ∧ ones ((s.map TNdReport.av).flatMap AV.cells) = true ∧ chunkA 4 s.length ((s.map TNdReport.av).flatMap AV.cells) = s.map TNdReport.av :=
  flat_map (g := TNdReport.cs) (fun _ => rfl) (fun _ => rfl) (fun _ => rfl) s
theorem agg69 : isAggT Try.prog 69 = true := by kernel_rfl
theorem chunkR (s : List TNdReport) (n : Nat) (hn : n = s.length) : chunks 4 (isAggT Try.prog 69) n (List.drop 0 (List.flatMap AV.cells (List.map TNdReport.av s))) = List.map TNdReport.av s := by
  rw [agg69, hn]; simp only [chunks, if_true, List.drop_zero]; exact (flatR s).2.2.2
def G60 (s : List TNdReport) (S : SpecF) (Fr : FuncId → List AV → Nat → List AV → Prop) (Q : List AV → Prop) : Prop :=
  ∀ (b0 : Bool), (List.map TNdReport.av s ≠ [] → b0 = !true) → (b0 = true → Q []) ∧ (b0 = false → elemsOf (4 : Nat) (List.map TNdReport.av s) ∧ ((([] : List AV) = [] ∨ (0 : Nat) < (List.map TNdReport.av s).length) ∧ ((0 : Nat) + (List.map TNdReport.av s).length + (200 : Nat)) * (33 : Nat) ≤ (70368744177664 : Nat) ∧ elemsOf (4 : Nat) [] ∧ ones (List.flatMap AV.cells (List.map TNdReport.av s)) = true ∧ ones [] = true) ∧ (([] ++ List.flatMap AV.cells (List.map TNdReport.av s)).length = ((0 : Nat) + (List.map TNdReport.av s).length) * (4 : Nat) ∧ (isAggT Try.prog (69 : Nat) = false → (4 : Nat) = (1 : Nat) ∧ ones ([] ++ List.flatMap AV.cells (List.map TNdReport.av s)) = true)) ∧ Q (chunks (4 : Nat) (isAggT Try.prog (69 : Nat)) ((0 : Nat) + (List.map TNdReport.av s).length) ([] ++ List.flatMap AV.cells (List.map TNdReport.av s))))
theorem g60 (s : List TNdReport) (S : SpecF) (Fr : FuncId → List AV → Nat → List AV → Prop) (Q : List AV → Prop) : awpG Try.prog ⟨S, Fr, ⟨[], [], []⟩⟩ ⟨[0, 2, 4], [], [], []⟩ Try.f60 [.slc 3 (List.map TNdReport.av s)] 4 Q = G60 s S Fr Q := by kernel_rfl
theorem fr60 (s : List TNdReport) (es : List AV) (h : G60 s (SpecOf Try.prog) (FreshOf Try.prog) (fun r => r = es)) : FreshOf Try.prog 60 [.slc 3 (List.map TNdReport.av s)] 4 es :=
  fresh_by mixed Try.func60 Try.call60 (Nat.le_of_ble_eq_true rfl) (g60 s (SpecOf Try.prog) (FreshOf Try.prog) _) h
theorem f60 (s : List TNdReport) (hl : s.length ≤ 1000000) : FreshOf Try.prog 60 [.slc 3 (List.map TNdReport.av s)] 4 (List.map TNdReport.av s) := fr60 s _ (by
  obtain ⟨h1, h2, h3, h4⟩ := flatR s
  intro b hb
  refine ⟨fun h0 => ?_, fun h0 => ⟨h1, ⟨.inl rfl, by rw [List.length_map]; omega, fun v hv => by simp at hv, h3, rfl⟩, ⟨?_, ?_⟩, ?_⟩⟩
  · by_cases hs : List.map TNdReport.av s = []
    · exact hs.symm
    · have := hb hs; simp_all
  · simp only [List.nil_append, h2, Nat.zero_add, List.length_map]
  · intro hf; rw [agg69] at hf; cases hf
  · rw [agg69]; simp only [chunks, if_true, List.nil_append, Nat.zero_add, List.length_map]; exact h4)
def R59 (n : Int) (S : SpecF) (Fr : FuncId → List AV → Nat → List AV → Prop) (Q : AV → List (List AV) → Prop) : Prop :=
  ∃ b0, S (38 : Nat) [AV.int IntKind.i64 n, AV.int IntKind.i64 (0 : Int), AV.int IntKind.i64 (1000000000 : Int)] [] (AV.bool b0) [] ∧ Q (AV.bool !b0) []
theorem r59 (n : Int) (S : SpecF) (Fr : FuncId → List AV → Nat → List AV → Prop) (Q : AV → List (List AV) → Prop) : awpF Try.prog ⟨S, Fr, ⟨[], [], []⟩⟩ 0 ⟨[0, 2], [], [], []⟩ Try.f59 [.int .i64 n] [] Q = R59 n S Fr Q := by kernel_rfl
theorem s59 (n : Int) (v : AV) (O : List (List AV)) (h : R59 n (SpecOf Try.prog) (FreshOf Try.prog) (fun r O' => r = v ∧ O' = O)) : SpecOf Try.prog 59 [.int .i64 n] [] v O :=
  spec_by (boxes := []) mixed Try.func59 Try.call59 rfl rfl rfl (Nat.le_of_ble_eq_true rfl) (r59 n (SpecOf Try.prog) (FreshOf Try.prog) _) h
theorem c59 (n : Int) : Sp 59 [.int .i64 n] [] (.bool (wildB n)) [] := s59 n _ _ ⟨_, c38 _ _ _, rfl, rfl⟩
def mergeS (view : List TNdReport) (node : Int) (r : TNdReport) : List TNdReport × Int :=
  if 60 < view.length then ([], 3) else if !inB node 0 (view.length - 1) then ([], 4) else if wildB r.Count || wildB r.Level || wildB r.Version then ([], 7)
  else (if (view.getD node.toNat .zero).Count < r.Count then view.set node.toNat r else view, 0)
def outM (x : List TNdReport × Int) : AV := .tup [.slc 3 (List.map TNdReport.av x.1), .int .i64 x.2]
theorem set_flat (r : TNdReport) : ∀ (view : List TNdReport) (k : Nat), k < view.length → setCells ((view.map TNdReport.av).flatMap AV.cells) (k * 4) r.cs = ((view.set k r).map TNdReport.av).flatMap AV.cells := by
  intro view
  induction view with
  | nil => intro k hk; simp at hk
  | cons x v ih =>
    intro k hk
    have hx : x.av.cells = x.cs := rfl
    have hl : x.cs.length = 4 := rfl
    have hr : r.cs.length = 4 := rfl
    cases k with
    | zero => simp only [Nat.zero_mul, setCells, List.take_zero, List.nil_append, Nat.zero_add, hr, List.map_cons, List.flatMap_cons, hx, List.set_cons_zero, List.drop_append_of_le_length (Nat.le_of_eq hl.symm), List.drop_of_length_le (Nat.le_of_eq hl)]; rfl
    | succ k =>
      have hk' : k < v.length := by simpa using hk
      have := ih k hk'
      simp only [setCells] at this ⊢
      have e : (k + 1) * 4 = x.cs.length + k * 4 := by rw [hl]; omega
      have e2 : (k + 1) * 4 + r.cs.length = x.cs.length + (k * 4 + r.cs.length) := by omega
      simp only [List.map_cons, List.flatMap_cons, hx, List.set_cons_succ]
      rw [e2, e, List.take_length_add_append, List.drop_length_add_append, List.append_assoc, this]
theorem get_flat : ∀ (view : List TNdReport) (k : Nat) (x : TNdReport), view[k]? = some x → ((view.map TNdReport.av).flatMap AV.cells)[k * 4]? = some (.int .i64 x.Count) := by
  intro view
  induction view with
  | nil => intro k x h; simp at h
  | cons y v ih =>
    intro k x h
    have hy : y.av.cells = y.cs := rfl
    have hl : y.cs.length = 4 := rfl
    simp only [List.map_cons, List.flatMap_cons, hy]
    cases k with
    | zero => simp only [List.getElem?_cons_zero, Option.some.injEq] at h; subst h; rfl
    | succ k =>
      rw [List.getElem?_append_right (by rw [hl]; omega), hl, show (k + 1) * 4 - 4 = k * 4 by omega]
      exact ih k x (by simpa using h)
theorem part3 (cs : List AV) (off : Nat) : partA Try.prog 3 cs off = cs[off]? := by
  have : Try.prog.underlying 3 = some (.int .i64) := by kernel_rfl
  simp only [partA, this]
theorem merge_at {view : List TNdReport} {node : Int} {r : TNdReport} (h1 : ¬ 60 < view.length) (h2 : inB node 0 (view.length - 1) = true) (h3 : wildB r.Count = false) (h4 : wildB r.Level = false) (h5 : wildB r.Version = false) :
    mergeS view node r = (if (view.getD node.toNat .zero).Count < r.Count then view.set node.toNat r else view, 0) := by
  rw [mergeS, if_neg h1, h2, h3, h4, h5]; rfl
def R31 (view : List TNdReport) (node : Int) (r : TNdReport) (S : SpecF) (Fr : FuncId → List AV → Nat → List AV → Prop) (Q : AV → List (List AV) → Prop) : Prop :=
  (decide ((↑(List.map TNdReport.av view).length : Int) > (60 : Int)) = true → Q (AV.tup [AV.slc (3 : Nat) [], AV.int IntKind.i64 (3 : Int)]) []) ∧ (decide ((↑(List.map TNdReport.av view).length : Int) > (60 : Int)) = false → ∃ b2, S (38 : Nat) [AV.int IntKind.i64 node, AV.int IntKind.i64 (0 : Int), AV.int IntKind.i64 (IntKind.i64.wrap ((↑(List.map TNdReport.av view).length : Int) - (1 : Int)))] [] (AV.bool b2) [] ∧ ((!b2) = true → Q (AV.tup [AV.slc (3 : Nat) [], AV.int IntKind.i64 (4 : Int)]) []) ∧ ((!b2) = false → ∃ b6, S (59 : Nat) [AV.int IntKind.i64 r.Count] [] (AV.bool b6) [] ∧ (b6 = true → Q (AV.tup [AV.slc (3 : Nat) [], AV.int IntKind.i64 (7 : Int)]) []) ∧ (b6 = false → ∃ b10, S (59 : Nat) [AV.int IntKind.i64 r.Level] [] (AV.bool b10) [] ∧ (b10 = true → Q (AV.tup [AV.slc (3 : Nat) [], AV.int IntKind.i64 (7 : Int)]) []) ∧ (b10 = false → ∃ b14, S (59 : Nat) [AV.int IntKind.i64 r.Version] [] (AV.bool b14) [] ∧ (b14 = true → Q (AV.tup [AV.slc (3 : Nat) [], AV.int IntKind.i64 (7 : Int)]) []) ∧ (b14 = false → ∃ es18, Fr (60 : Nat) [AV.slc (3 : Nat) (List.map TNdReport.av view)] (4 : Nat) es18 ∧ ((0 : Int) ≤ node ∧ node < (↑es18.length : Int) ∧ (4 : Nat) = (4 : Nat)) ∧ ∃ n21, Option.map AV.norm (partA Try.prog (3 : Nat) (List.flatMap AV.cells es18) ((0 : Nat) + node.toNat * (4 : Nat) + (0 : Nat))) = some (AV.int IntKind.i64 n21) ∧ (decide (n21 < r.Count) = true → ((0 : Int) ≤ node ∧ node < (↑es18.length : Int) ∧ (4 : Nat) = (4 : Nat)) ∧ (0 : Nat) + node.toNat * (4 : Nat) + (4 : Nat) ≤ (List.flatMap AV.cells es18).length ∧ (0 : Nat) + es18.length * (4 : Nat) ≤ (setCells (List.flatMap AV.cells es18) ((0 : Nat) + node.toNat * (4 : Nat)) r.cs).length ∧ Q (AV.tup [AV.slc (3 : Nat) (chunks (4 : Nat) (isAggT Try.prog (69 : Nat)) es18.length (List.drop (0 : Nat) (setCells (List.flatMap AV.cells es18) ((0 : Nat) + node.toNat * (4 : Nat)) r.cs))), AV.int IntKind.i64 (0 : Int)]) []) ∧ (decide (n21 < r.Count) = false → (0 : Nat) + es18.length * (4 : Nat) ≤ (List.flatMap AV.cells es18).length ∧ Q (AV.tup [AV.slc (3 : Nat) (chunks (4 : Nat) (isAggT Try.prog (69 : Nat)) es18.length (List.drop (0 : Nat) (List.flatMap AV.cells es18))), AV.int IntKind.i64 (0 : Int)]) []))))))
theorem r31 (view : List TNdReport) (node : Int) (r : TNdReport) (S : SpecF) (Fr : FuncId → List AV → Nat → List AV → Prop) (Q : AV → List (List AV) → Prop) : awpF Try.prog ⟨S, Fr, ⟨[60], [], []⟩⟩ 0 ⟨[0, 1, 2, 5, 6, 7, 8, 9, 10, 14, 21, 47], [], [], []⟩ Try.f31 [.slc 3 (List.map TNdReport.av view), .int .i64 node, r.av] [] Q = R31 view node r S Fr Q := by kernel_rfl
theorem s31 (view : List TNdReport) (node : Int) (r : TNdReport) (v : AV) (O : List (List AV)) (h : R31 view node r (SpecOf Try.prog) (FreshOf Try.prog) (fun r O' => r = v ∧ O' = O)) : SpecOf Try.prog 31 [.slc 3 (List.map TNdReport.av view), .int .i64 node, r.av] [] v O :=
  spec_by (boxes := []) mixed Try.func31 Try.call31 rfl rfl rfl (Nat.le_of_ble_eq_true rfl) (r31 view node r (SpecOf Try.prog) (FreshOf Try.prog) _) h
theorem c31 (view : List TNdReport) (node : Int) (r : TNdReport) : Sp 31 [.slc 3 (List.map TNdReport.av view), .int .i64 node, r.av] [] (outM (mergeS view node r)) [] := s31 view node r _ _ (by
  refine ⟨fun h => ⟨?_, rfl⟩, fun h => ?_⟩
  · have h : 60 < view.length := by have h := of_decide_eq_true h; rw [List.length_map] at h; omega
    unfold outM; rw [mergeS, if_pos h]; rfl
  have h : ¬ 60 < view.length := by have h := of_decide_eq_false h; rw [List.length_map] at h; omega
  have e1 : IntKind.i64.wrap (((List.map TNdReport.av view).length : Int) - 1) = (view.length : Int) - 1 := by rw [List.length_map]; exact i64 (by omega)
  rw [e1]
  refine ⟨_, c38 _ _ _, fun g1 => ⟨?_, rfl⟩, fun g1 => ⟨_, c59 _, fun g2 => ⟨?_, rfl⟩, fun g2 => ⟨_, c59 _, fun g3 => ⟨?_, rfl⟩, fun g3 => ⟨_, c59 _, fun g4 => ⟨?_, rfl⟩, fun g4 => ?_⟩⟩⟩⟩
  · unfold outM; rw [mergeS, if_neg h, if_pos g1]; rfl
  · unfold outM; rw [mergeS, if_neg h, if_neg (by simp [g1]), g2]; rfl
  · unfold outM; rw [mergeS, if_neg h, if_neg (by simp [g1]), g2, g3]; rfl
  · unfold outM; rw [mergeS, if_neg h, if_neg (by simp [g1]), g2, g3, g4]; rfl
  have g1 : inB node 0 (view.length - 1) = true := by simpa using g1
  have g1' := inB_iff.1 g1
  have hk : node.toNat < view.length := by omega
  have hx : view[node.toNat]? = some view[node.toNat] := List.getElem?_eq_getElem hk
  have hgd : view.getD node.toNat .zero = view[node.toNat] := by simp [List.getD, hx]
  obtain ⟨a1, a2, a3, a4⟩ := flatR view
  obtain ⟨b1, b2, b3, b4⟩ := flatR (view.set node.toNat r)
  have hm := merge_at h g1 g2 g3 g4
  rw [hgd] at hm
  refine ⟨_, f60 view (by omega), ⟨by omega, by rw [List.length_map]; omega, rfl⟩, view[node.toNat].Count, ?_, fun g5 => ⟨⟨by omega, by rw [List.length_map]; omega, rfl⟩, ?_, ?_, ?_, rfl⟩, fun g5 => ⟨?_, ?_, rfl⟩⟩
  · rw [part3, Nat.zero_add, Nat.add_zero, get_flat _ _ _ hx]; rfl
  · rw [a2]; omega
  · simp only [Nat.zero_add]; rw [set_flat _ _ _ hk, b2, List.length_set, List.length_map]; omega
  · unfold outM
    simp only [Nat.zero_add]
    rw [hm, if_pos (of_decide_eq_true g5), set_flat _ _ _ hk, chunkR _ _ (by simp)]
  · rw [a2, List.length_map]; omega
  · unfold outM
    rw [hm, if_neg (of_decide_eq_false g5), chunkR _ _ (by simp)])
def R32 (view : List TNdReport) (node : Int) (r : TNdReport) (S : SpecF) (Fr : FuncId → List AV → Nat → List AV → Prop) (Q : AV → List (List AV) → Prop) : Prop :=
  (decide ((↑(List.map TNdReport.av view).length : Int) > (60 : Int)) = true → Q (AV.tup [AV.slc (3 : Nat) [], AV.int IntKind.i64 (3 : Int)]) []) ∧ (decide ((↑(List.map TNdReport.av view).length : Int) > (60 : Int)) = false → ∃ b2, S (52 : Nat) [AV.int IntKind.i64 node, AV.int IntKind.i64 (0 : Int), AV.int IntKind.i64 (IntKind.i64.wrap ((↑(List.map TNdReport.av view).length : Int) - (1 : Int)))] [] (AV.bool b2) [] ∧ ((!b2) = true → Q (AV.tup [AV.slc (3 : Nat) [], AV.int IntKind.i64 (4 : Int)]) []) ∧ ((!b2) = false → ∃ b6, S (52 : Nat) [AV.int IntKind.i64 r.Count, AV.int IntKind.i64 (0 : Int), AV.int IntKind.i64 (1000000000 : Int)] [] (AV.bool b6) [] ∧ ((!b6) = true → Q (AV.tup [AV.slc (3 : Nat) [], AV.int IntKind.i64 (7 : Int)]) []) ∧ ((!b6) = false → ∃ b10, S (52 : Nat) [AV.int IntKind.i64 r.Level, AV.int IntKind.i64 (0 : Int), AV.int IntKind.i64 (1000000000 : Int)] [] (AV.bool b10) [] ∧ ((!b10) = true → Q (AV.tup [AV.slc (3 : Nat) [], AV.int IntKind.i64 (7 : Int)]) []) ∧ ((!b10) = false → ∃ b14, S (52 : Nat) [AV.int IntKind.i64 r.Version, AV.int IntKind.i64 (0 : Int), AV.int IntKind.i64 (1000000000 : Int)] [] (AV.bool b14) [] ∧ ((!b14) = true → Q (AV.tup [AV.slc (3 : Nat) [], AV.int IntKind.i64 (7 : Int)]) []) ∧ ((!b14) = false → elemsOf (4 : Nat) (List.map TNdReport.av view) ∧ ((([] : List AV) = [] ∨ (0 : Nat) < (List.map TNdReport.av view).length) ∧ ((0 : Nat) + (List.map TNdReport.av view).length + (200 : Nat)) * (33 : Nat) ≤ (70368744177664 : Nat) ∧ elemsOf (4 : Nat) [] ∧ ones (List.flatMap AV.cells (List.map TNdReport.av view)) = true ∧ ones [] = true) ∧ ∃ n20 n21 n22 b23, ((0 : Int) ≤ node ∧ (4 : Nat) = (4 : Nat) ∧ (List.map TNdReport.av view)[node.toNat]? = some (AV.agg [AV.int IntKind.i64 n20, AV.int IntKind.i64 n21, AV.int IntKind.i64 n22, AV.bool b23])) ∧ (decide (r.Count > n20) = true → ((0 : Int) ≤ node ∧ node < (↑((0 : Nat) + (List.map TNdReport.av view).length) : Int) ∧ (4 : Nat) = (4 : Nat)) ∧ (0 : Nat) + node.toNat * (4 : Nat) + (4 : Nat) ≤ ([] ++ List.flatMap AV.cells (List.map TNdReport.av view)).length ∧ (0 : Nat) + ((0 : Nat) + (List.map TNdReport.av view).length) * (4 : Nat) ≤ (setCells ([] ++ List.flatMap AV.cells (List.map TNdReport.av view)) ((0 : Nat) + node.toNat * (4 : Nat)) r.cs).length ∧ Q (AV.tup [AV.slc (3 : Nat) (chunks (4 : Nat) (isAggT Try.prog (69 : Nat)) ((0 : Nat) + (List.map TNdReport.av view).length) (List.drop (0 : Nat) (setCells ([] ++ List.flatMap AV.cells (List.map TNdReport.av view)) ((0 : Nat) + node.toNat * (4 : Nat)) r.cs))), AV.int IntKind.i64 (0 : Int)]) []) ∧ (decide (r.Count > n20) = false → (0 : Nat) + ((0 : Nat) + (List.map TNdReport.av view).length) * (4 : Nat) ≤ ([] ++ List.flatMap AV.cells (List.map TNdReport.av view)).length ∧ Q (AV.tup [AV.slc (3 : Nat) (chunks (4 : Nat) (isAggT Try.prog (69 : Nat)) ((0 : Nat) + (List.map TNdReport.av view).length) (List.drop (0 : Nat) ([] ++ List.flatMap AV.cells (List.map TNdReport.av view)))), AV.int IntKind.i64 (0 : Int)]) []))))))
theorem r32 (view : List TNdReport) (node : Int) (r : TNdReport) (S : SpecF) (Fr : FuncId → List AV → Nat → List AV → Prop) (Q : AV → List (List AV) → Prop) : awpF Try.prog ⟨S, Fr, ⟨[], [], []⟩⟩ 0 ⟨[0, 1, 2, 5, 6, 7, 8, 11, 17, 33, 44], [], [], []⟩ Try.f32 [.slc 3 (List.map TNdReport.av view), .int .i64 node, r.av] [] Q = R32 view node r S Fr Q := by kernel_rfl
theorem s32 (view : List TNdReport) (node : Int) (r : TNdReport) (v : AV) (O : List (List AV)) (h : R32 view node r (SpecOf Try.prog) (FreshOf Try.prog) (fun r O' => r = v ∧ O' = O)) : SpecOf Try.prog 32 [.slc 3 (List.map TNdReport.av view), .int .i64 node, r.av] [] v O :=
  spec_by (boxes := []) mixed Try.func32 Try.call32 rfl rfl rfl (Nat.le_of_ble_eq_true rfl) (r32 view node r (SpecOf Try.prog) (FreshOf Try.prog) _) h
theorem c32 (view : List TNdReport) (node : Int) (r : TNdReport) : Sp 32 [.slc 3 (List.map TNdReport.av view), .int .i64 node, r.av] [] (outM (mergeS view node r)) [] := s32 view node r _ _ (by
  refine ⟨fun h => ⟨?_, rfl⟩, fun h => ?_⟩
  · have h : 60 < view.length := by have h := of_decide_eq_true h; rw [List.length_map] at h; omega
    unfold outM; rw [mergeS, if_pos h]; rfl
  have h : ¬ 60 < view.length := by have h := of_decide_eq_false h; rw [List.length_map] at h; omega
  have e1 : IntKind.i64.wrap (((List.map TNdReport.av view).length : Int) - 1) = (view.length : Int) - 1 := by rw [List.length_map]; exact i64 (by omega)
  rw [e1]
  refine ⟨_, c52 _ _ _, fun g1 => ⟨?_, rfl⟩, fun g1 => ⟨_, c52 _ _ _, fun g2 => ⟨?_, rfl⟩, fun g2 => ⟨_, c52 _ _ _, fun g3 => ⟨?_, rfl⟩, fun g3 => ⟨_, c52 _ _ _, fun g4 => ⟨?_, rfl⟩, fun g4 => ?_⟩⟩⟩⟩
  · unfold outM; rw [mergeS, if_neg h, if_pos g1]; rfl
  · have g2 : wildB r.Count = true := g2
    unfold outM; rw [mergeS, if_neg h, if_neg (by simp [g1]), g2]; rfl
  · have g2 : wildB r.Count = false := g2
    have g3 : wildB r.Level = true := g3
    unfold outM; rw [mergeS, if_neg h, if_neg (by simp [g1]), g2, g3]; rfl
  · have g2 : wildB r.Count = false := g2
    have g3 : wildB r.Level = false := g3
    have g4 : wildB r.Version = true := g4
    unfold outM; rw [mergeS, if_neg h, if_neg (by simp [g1]), g2, g3, g4]; rfl
  have g1 : inB node 0 (view.length - 1) = true := by simpa using g1
  have g1' := inB_iff.1 g1
  have hk : node.toNat < view.length := by omega
  have hx : view[node.toNat]? = some view[node.toNat] := List.getElem?_eq_getElem hk
  have hgd : view.getD node.toNat .zero = view[node.toNat] := by simp [List.getD, hx]
  obtain ⟨a1, a2, a3, a4⟩ := flatR view
  obtain ⟨b1, b2, b3, b4⟩ := flatR (view.set node.toNat r)
  have hm := merge_at h g1 g2 g3 g4
  rw [hgd] at hm
  refine ⟨a1, ⟨.inr (by rw [List.length_map]; omega), by rw [List.length_map]; omega, fun v hv => by simp at hv, a3, rfl⟩, view[node.toNat].Count, view[node.toNat].Level, view[node.toNat].Version, view[node.toNat].Good, ⟨by omega, rfl, by rw [List.getElem?_map, hx]; rfl⟩, fun g5 => ⟨⟨by omega, by rw [List.length_map]; omega, rfl⟩, ?_, ?_, ?_, rfl⟩, fun g5 => ⟨?_, ?_, rfl⟩⟩
  · rw [List.nil_append, a2]; omega
  · simp only [Nat.zero_add, List.nil_append]; rw [set_flat _ _ _ hk, b2, List.length_set, List.length_map]; omega
  · unfold outM
    simp only [Nat.zero_add, List.nil_append]
    rw [hm, if_pos (of_decide_eq_true g5), set_flat _ _ _ hk, chunkR _ _ (by simp)]
  · simp only [Nat.zero_add, List.nil_append]; rw [a2, List.length_map]; omega
  · unfold outM
    simp only [Nat.zero_add, List.nil_append]
    rw [hm, if_neg (of_decide_eq_false g5), chunkR _ _ (by simp)])
deriving instance DecidableEq for TNdReport
def R33 (a : List TNdReport) (b : List TNdReport) (S : SpecF) (Fr : FuncId → List AV → Nat → List AV → Prop) (Q : AV → List (List AV) → Prop) : Prop :=
  (((↑(List.map TNdReport.av a).length : Int) != (↑(List.map TNdReport.av b).length : Int)) = true → Q (AV.bool false) []) ∧ (((↑(List.map TNdReport.av a).length : Int) != (↑(List.map TNdReport.av b).length : Int)) = false → ∃ (I2 : Nat → List AV → Prop), (∃ m4, I2 m4 [AV.int IntKind.i64 (0 : Int)]) ∧ ∀ (m4 : Nat) (n5 : Int), I2 m4 [AV.int IntKind.i64 n5] → (decide (n5 < (↑(List.map TNdReport.av a).length : Int)) = true → ∃ n9 n10 n11 b12, ((0 : Int) ≤ n5 ∧ (4 : Nat) = (4 : Nat) ∧ (List.map TNdReport.av a)[n5.toNat]? = some (AV.agg [AV.int IntKind.i64 n9, AV.int IntKind.i64 n10, AV.int IntKind.i64 n11, AV.bool b12])) ∧ ∃ n14 n15 n16 b17, ((0 : Int) ≤ n5 ∧ (4 : Nat) = (4 : Nat) ∧ (List.map TNdReport.av b)[n5.toNat]? = some (AV.agg [AV.int IntKind.i64 n14, AV.int IntKind.i64 n15, AV.int IntKind.i64 n16, AV.bool b17])) ∧ ((!(n9 == n14 && (n10 == n15 && (n11 == n16 && (b12 == b17 && true))))) = true → Q (AV.bool false) []) ∧ ((!(n9 == n14 && (n10 == n15 && (n11 == n16 && (b12 == b17 && true))))) = false → ∃ k21, k21 < m4 ∧ I2 k21 [AV.int IntKind.i64 (IntKind.i64.wrap (n5 + (1 : Int)))])) ∧ (decide (n5 < (↑(List.map TNdReport.av a).length : Int)) = false → Q (AV.bool true) []))
theorem r33 (a : List TNdReport) (b : List TNdReport) (S : SpecF) (Fr : FuncId → List AV → Nat → List AV → Prop) (Q : AV → List (List AV) → Prop) : awpF Try.prog ⟨S, Fr, ⟨[], [], []⟩⟩ 0 ⟨[0, 1, 4, 5, 10, 14, 25], [⟨4, [(5, .int .i64 0)], [], []⟩], [], []⟩ Try.f33 [.slc 3 (List.map TNdReport.av a), .slc 3 (List.map TNdReport.av b)] [] Q = R33 a b S Fr Q := by kernel_rfl
theorem s33 (a : List TNdReport) (b : List TNdReport) (v : AV) (O : List (List AV)) (h : R33 a b (SpecOf Try.prog) (FreshOf Try.prog) (fun r O' => r = v ∧ O' = O)) : SpecOf Try.prog 33 [.slc 3 (List.map TNdReport.av a), .slc 3 (List.map TNdReport.av b)] [] v O :=
  spec_by (boxes := []) mixed Try.func33 Try.call33 rfl rfl rfl (Nat.le_of_ble_eq_true rfl) (r33 a b (SpecOf Try.prog) (FreshOf Try.prog) _) h
theorem rep_eq (x y : TNdReport) : (x.Count == y.Count && (x.Level == y.Level && (x.Version == y.Version && (x.Good == y.Good && true)))) = (x == y) := by
  rw [Bool.eq_iff_iff]
  cases x; cases y; simp
theorem c33 (a b : List TNdReport) (hl : a.length ≤ 1000000) : Sp 33 [.slc 3 (List.map TNdReport.av a), .slc 3 (List.map TNdReport.av b)] [] (.bool (a == b)) [] := s33 a b _ _ (by
  refine ⟨fun h => ⟨?_, rfl⟩, fun h => ?_⟩
  · have h : ¬ (a.length : Int) = b.length := by simpa using h
    have h : a.length ≠ b.length := by omega
    have : (a == b) = false := by rw [Bool.eq_false_iff]; intro hh; exact h (by rw [eq_of_beq hh])
    rw [this]
  have h : (a.length : Int) = b.length := by simpa using h
  have h : a.length = b.length := by omega
  refine ⟨fun m vs => ∃ k : Nat, k ≤ a.length ∧ m = a.length - k ∧ vs = [.int .i64 k] ∧ a.take k = b.take k, ⟨_, 0, by omega, rfl, rfl, rfl⟩, ?_⟩
  rintro m n ⟨k, hk, rfl, hv, ht⟩
  cases hv
  refine ⟨fun h1 => ?_, fun h1 => ⟨?_, rfl⟩⟩
  · have h1 : k < a.length := by simpa using h1
    obtain ⟨x, hx, hx'⟩ := map_get (f := TNdReport.av) (l := a) (n := (k : Int)) (by omega) (by omega)
    obtain ⟨y, hy, hy'⟩ := map_get (f := TNdReport.av) (l := b) (n := (k : Int)) (by omega) (by omega)
    simp only [Int.toNat_natCast] at hx hy
    refine ⟨_, _, _, _, ⟨by omega, rfl, hx'⟩, _, _, _, _, ⟨by omega, rfl, hy'⟩, fun h2 => ⟨?_, rfl⟩, fun h2 => ⟨a.length - (k + 1), by omega, k + 1, by omega, rfl, ?_, ?_⟩⟩
    · rw [rep_eq] at h2
      have h2 : x ≠ y := by simpa using h2
      have : (a == b) = false := by
        rw [Bool.eq_false_iff]; intro hh
        rw [eq_of_beq hh, hy] at hx; cases hx; exact h2 rfl
      rw [this]
    · rw [wrap1 (m := a.length) (by omega) (by omega) (by omega)]; rfl
    · rw [rep_eq] at h2
      have h2 : x = y := by simpa using h2
      rw [List.take_add_one, List.take_add_one, ht, hx, hy, h2]
  · have h1 : a.length ≤ k := by simpa using h1
    rw [List.take_of_length_le h1, List.take_of_length_le (by omega)] at ht
    rw [ht]; simp)
theorem merge_len (view : List TNdReport) (node : Int) (r : TNdReport) : (mergeS view node r).1.length ≤ 60 := by
  unfold mergeS
  repeat' split
  all_goals first | (simp; done) | (simp only [List.length_set]; omega) | (simp only []; omega)
def R9 (view : List TNdReport) (n : Int) (r : TNdReport) (S : SpecF) (Fr : FuncId → List AV → Nat → List AV → Prop) (Q : AV → List (List AV) → Prop) : Prop :=
  ∃ es0 n1, S (31 : Nat) [AV.slc (3 : Nat) (List.map TNdReport.av view), AV.int IntKind.i64 n, r.av] [] (AV.tup [AV.slc (3 : Nat) es0, AV.int IntKind.i64 n1]) [] ∧ ∃ es3 n4, S (32 : Nat) [AV.slc (3 : Nat) (List.map TNdReport.av view), AV.int IntKind.i64 n, r.av] [] (AV.tup [AV.slc (3 : Nat) es3, AV.int IntKind.i64 n4]) [] ∧ ((n1 == n4) = true → ∃ b8, S (33 : Nat) [AV.slc (3 : Nat) es0, AV.slc (3 : Nat) es3] [] (AV.bool b8) [] ∧ (b8 = true → ∃ b12, S (16 : Nat) [] [] (AV.bool b12) [] ∧ Q (AV.bool b12) []) ∧ (b8 = false → Q (AV.bool false) [])) ∧ ((n1 == n4) = false → Q (AV.bool false) [])
theorem r9 (view : List TNdReport) (n : Int) (r : TNdReport) (S : SpecF) (Fr : FuncId → List AV → Nat → List AV → Prop) (Q : AV → List (List AV) → Prop) : awpF Try.prog ⟨S, Fr, ⟨[], [], []⟩⟩ 0 ⟨[0, 1, 2, 5, 6, 7, 8, 9, 10], [], [], []⟩ Try.f9 [.slc 3 (List.map TNdReport.av view), .int .i64 n, r.av] [] Q = R9 view n r S Fr Q := by kernel_rfl
theorem s9 (view : List TNdReport) (n : Int) (r : TNdReport) (v : AV) (O : List (List AV)) (h : R9 view n r (SpecOf Try.prog) (FreshOf Try.prog) (fun r O' => r = v ∧ O' = O)) : SpecOf Try.prog 9 [.slc 3 (List.map TNdReport.av view), .int .i64 n, r.av] [] v O :=
  spec_by (boxes := []) mixed Try.func9 Try.call9 rfl rfl rfl (Nat.le_of_ble_eq_true rfl) (r9 view n r (SpecOf Try.prog) (FreshOf Try.prog) _) h
theorem c9 (view : List TNdReport) (n : Int) (r : TNdReport) : Sp 9 [.slc 3 (List.map TNdReport.av view), .int .i64 n, r.av] [] (.bool true) [] := s9 view n r _ _ (by
  have hl := merge_len view n r
  refine ⟨_, _, c31 view n r, _, _, c32 view n r, fun h => ⟨_, c33 _ _ (by omega), fun _ => ⟨_, c16, rfl, rfl⟩, fun h => ?_⟩, fun h => ?_⟩
  · simp at h
  · simp at h)
end Go.Proofs.Ytdaanpgdjjodcaa

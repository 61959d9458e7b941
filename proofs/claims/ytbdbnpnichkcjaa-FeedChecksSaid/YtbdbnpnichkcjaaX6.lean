/- Contracts: whether a protection yields to another one. -/
import Derived.Test.YtbdbnpnichkcjaaW6
namespace Go.Proofs.Ytbdbnpnichkcjaa
open Go.RowKit
def wantB (g o : TGuard) (b : TEncl) (n : Int) : Bool := inB n b.Lo b.Hi && ((meltS g.fuse n).2 && !beatsB g o n)
def CB (b : TEncl) : Prop := -2000000000000 ≤ b.Lo ∧ b.Hi ≤ 2000000000000
def R128 (n : Int) (v0 : TGuard) (v1 : TEncl) (v2 : TGuard) (S : SpecF) (Fr : FuncId → List AV → Nat → List AV → Prop) (Sq : FuncId → List AV → List (List AV) → List (List AV) → Prop) (Q : AV → List (List AV) → Prop) : Prop :=
  ∃ n0 n1 b2, S (76 : Nat) [v0.fuse.av, AV.int IntKind.i64 n] [] (AV.tup [AV.agg [AV.int IntKind.i64 n0, AV.int IntKind.i64 n1], AV.bool b2]) [] ∧ ∃ b4, S (43 : Nat) [AV.int IntKind.i64 n, AV.int IntKind.i64 v1.Lo, AV.int IntKind.i64 v1.Hi] [] (AV.bool b4) [] ∧ (b4 = true → (b2 = true → ∃ b10, S (80 : Nat) [v0.av, v2.av, AV.int IntKind.i64 n] [] (AV.bool b10) [] ∧ Q (AV.bool !b10) [v0.cs, v1.cs, v2.cs]) ∧ (b2 = false → Q (AV.bool false) [v0.cs, v1.cs, v2.cs])) ∧ (b4 = false → Q (AV.bool false) [v0.cs, v1.cs, v2.cs])
theorem r128 (n : Int) (v0 : TGuard) (v1 : TEncl) (v2 : TGuard) (S : SpecF) (Fr : FuncId → List AV → Nat → List AV → Prop) (Sq : FuncId → List AV → List (List AV) → List (List AV) → Prop) (Q : AV → List (List AV) → Prop) : awpF Try.prog (mkS Try.prog S Fr Sq ⟨[], [], [], [], []⟩ 0) 3 ⟨[0, 1, 2, 3, 5, 7], [], [], []⟩ Try.f128 [.int .i64 n, .ref 0 0, .ref 1 0, .ref 2 0] [⟨118, false, v0.cs⟩, ⟨26, false, v1.cs⟩, ⟨118, false, v2.cs⟩] Q = R128 n v0 v1 v2 S Fr Sq Q := by kernel_rfl
theorem s128 (n : Int) (v0 : TGuard) (v1 : TEncl) (v2 : TGuard) (v : AV) (O : List (List AV)) (h : R128 n v0 v1 v2 (SpecOf Try.prog) (FreshOf Try.prog) (SeqOf Try.prog) (fun r O' => r = v ∧ O' = O)) : SpecOf Try.prog 128 [.int .i64 n, .ref 0 0, .ref 1 0, .ref 2 0] [v0.cs, v1.cs, v2.cs] v O :=
  spec_by (boxes := [⟨118, false, v0.cs⟩, ⟨26, false, v1.cs⟩, ⟨118, false, v2.cs⟩]) mixed (by exact trivial) Try.func128 Try.call128 rfl rfl rfl (Nat.le_of_ble_eq_true rfl) (r128 n v0 v1 v2 (SpecOf Try.prog) (FreshOf Try.prog) (SeqOf Try.prog) _) h
theorem c128 (n : Int) (g : TGuard) (b : TEncl) (o : TGuard) (hg : GOK g) (ho : GOK o) (hb : CB b) : Sp 128 [.int .i64 n, .ref 0 0, .ref 1 0, .ref 2 0] [g.cs, b.cs, o.cs] (.bool (wantB g o b n)) [g.cs, b.cs, o.cs] := s128 n g b o _ _ (by
  refine ⟨_, _, _, c76 g.fuse n (by have := hg.fuse.len; omega), _, c43 _ _ _, fun h => ⟨fun h2 => ?_, fun h2 => ⟨?_, rfl⟩⟩, fun h => ⟨?_, rfl⟩⟩
  · have := inB_iff.1 h
    unfold CB at hb
    exact ⟨_, c80 g o n hg ho (by omega), by rw [wantB, h, h2]; rfl, rfl⟩
  · rw [wantB, h, h2]; rfl
  · rw [wantB, h]; rfl)
def R131 (s : List Int) (f0 : TGuard) (f1 : TEncl) (f2 : TGuard) (S : SpecF) (Fr : FuncId → List AV → Nat → List AV → Prop) (Sq : FuncId → List AV → List (List AV) → List (List AV) → Prop) (Q : AV → List (List AV) → Prop) : Prop :=
  ∃ (I0 : Nat → List AV → Prop), (∃ m2, I0 m2 [AV.int IntKind.i64 (0 : Int), f0.av]) ∧ ∀ (m2 : Nat) (n3 n4 : Int) (s5 : ByteArray) (n6 : Int) (es7 : List AV) (n8 : Int), I0 m2 [AV.int IntKind.i64 n3, AV.agg [AV.int IntKind.i64 n4, AV.str s5, AV.int IntKind.i64 n6, AV.slc (3 : Nat) es7, AV.int IntKind.i64 n8]] → (decide (n3 < (↑(List.map (AV.int IntKind.i64) s).length : Int)) = true → ∃ n12, ((0 : Int) ≤ n3 ∧ (1 : Nat) = (1 : Nat) ∧ (List.map (AV.int IntKind.i64) s)[n3.toNat]? = some (AV.int IntKind.i64 n12)) ∧ ∃ b14, S (128 : FuncId) [AV.int IntKind.i64 n12, AV.ref (0 : Nat) (0 : Nat), AV.ref (1 : Nat) (0 : Nat), AV.ref (2 : Nat) (0 : Nat)] [[AV.int IntKind.i64 n4, AV.str s5, AV.int IntKind.i64 n6, AV.slc (3 : Nat) es7, AV.int IntKind.i64 n8], f1.cs, f2.cs] (AV.bool b14) [[AV.int IntKind.i64 n4, AV.str s5, AV.int IntKind.i64 n6, AV.slc (3 : Nat) es7, AV.int IntKind.i64 n8], f1.cs, f2.cs] ∧ (b14 = true → Q (AV.int IntKind.i64 n3) [[AV.int IntKind.i64 n4, AV.str s5, AV.int IntKind.i64 n6, AV.slc (3 : Nat) es7, AV.int IntKind.i64 n8], f1.cs, f2.cs]) ∧ (b14 = false → f1.cs = f1.cs ∧ f2.cs = f2.cs ∧ ∃ k20, k20 < m2 ∧ I0 k20 [AV.int IntKind.i64 (IntKind.i64.wrap (n3 + (1 : Int))), AV.agg [AV.int IntKind.i64 n4, AV.str s5, AV.int IntKind.i64 n6, AV.slc (3 : Nat) es7, AV.int IntKind.i64 n8]])) ∧ (decide (n3 < (↑(List.map (AV.int IntKind.i64) s).length : Int)) = false → Q (AV.int IntKind.i64 (-1 : Int)) [[AV.int IntKind.i64 n4, AV.str s5, AV.int IntKind.i64 n6, AV.slc (3 : Nat) es7, AV.int IntKind.i64 n8], f1.cs, f2.cs])
theorem r131 (s : List Int) (f0 : TGuard) (f1 : TEncl) (f2 : TGuard) (S : SpecF) (Fr : FuncId → List AV → Nat → List AV → Prop) (Sq : FuncId → List AV → List (List AV) → List (List AV) → Prop) (Q : AV → List (List AV) → Prop) : awpF Try.prog (mkS Try.prog S Fr Sq ⟨[], [], [128], [], []⟩ 0) 3 ⟨[0, 1, 4, 5, 7, 8, 9, 16], [⟨2, [(8, .int .i64 0)], [], [(1000000, .agg [.int .i64 0, .str default, .int .i64 0, .slc 3 [], .int .i64 0])], [], []⟩], [], []⟩ Try.f131 [.slc 3 (List.map (AV.int .i64) s), .fn 128 [] [.ref 0 0, .ref 1 0, .ref 2 0]] [⟨118, false, f0.cs⟩, ⟨26, false, f1.cs⟩, ⟨118, false, f2.cs⟩] Q = R131 s f0 f1 f2 S Fr Sq Q := by kernel_rfl
theorem s131 (s : List Int) (f0 : TGuard) (f1 : TEncl) (f2 : TGuard) (v : AV) (O : List (List AV)) (h : R131 s f0 f1 f2 (SpecOf Try.prog) (FreshOf Try.prog) (SeqOf Try.prog) (fun r O' => r = v ∧ O' = O)) : SpecOf Try.prog 131 [.slc 3 (List.map (AV.int .i64) s), .fn 128 [] [.ref 0 0, .ref 1 0, .ref 2 0]] [f0.cs, f1.cs, f2.cs] v O :=
  spec_by (boxes := [⟨118, false, f0.cs⟩, ⟨26, false, f1.cs⟩, ⟨118, false, f2.cs⟩]) mixed (by exact trivial) Try.func131 Try.call131 rfl rfl rfl (Nat.le_of_ble_eq_true rfl) (r131 s f0 f1 f2 (SpecOf Try.prog) (FreshOf Try.prog) (SeqOf Try.prog) _) h
theorem c131 (s : List Int) (g : TGuard) (b : TEncl) (o : TGuard) (hl : s.length ≤ 1000000) (hg : GOK g) (ho : GOK o) (hb : CB b) : Sp 131 [.slc 3 (List.map (AV.int .i64) s), .fn 128 [] [.ref 0 0, .ref 1 0, .ref 2 0]] [g.cs, b.cs, o.cs] (.int .i64 (idxP (wantB g o b) 0 s)) [g.cs, b.cs, o.cs] := s131 s g b o _ _ (by
  refine ⟨fun m vs => ∃ n : Nat, vs = [.int .i64 n, g.av] ∧ n ≤ s.length ∧ m = s.length - n ∧ idxP (wantB g o b) n (s.drop n) = idxP (wantB g o b) 0 s, ⟨_, 0, rfl, by omega, rfl, rfl⟩, ?_⟩
  rintro m n n1 n2 n3 n4 n5 ⟨k, hk, hle, rfl, hn⟩
  cases hk
  refine ⟨fun h3 => ?_, fun h3 => ⟨?_, rfl⟩⟩
  · have h3 : k < s.length := by simpa using h3
    obtain ⟨x, hx, hx'⟩ := map_getN (f := AV.int .i64) h3
    have hat := idxP_at (p := wantB g o b) hx
    refine ⟨x, ⟨by omega, rfl, hx'⟩, _, c128 x g b o hg ho hb, fun h4 => ⟨?_, rfl⟩, fun h4 => ⟨rfl, rfl, _, ?_, k + 1, ?_, by omega, rfl, ?_⟩⟩
    · rw [← hn, hat, if_pos h4]
    · omega
    · rw [wrapN (by omega)]; rfl
    · rw [← hn, hat, if_neg (by rw [h4]; simp)]
  · have : k = s.length := by simp at h3; omega
    rw [← hn, this, List.drop_length]; rfl)
def R127 (s : List Int) (f0 : TGuard) (f1 : TEncl) (f2 : TGuard) (S : SpecF) (Fr : FuncId → List AV → Nat → List AV → Prop) (Sq : FuncId → List AV → List (List AV) → List (List AV) → Prop) (Q : AV → List (List AV) → Prop) : Prop :=
  ∃ n0, S (131 : Nat) [AV.slc (3 : Nat) (List.map (AV.int IntKind.i64) s), AV.fn (128 : FuncId) [] [AV.ref (0 : Nat) (0 : Nat), AV.ref (1 : Nat) (0 : Nat), AV.ref (2 : Nat) (0 : Nat)]] [f0.cs, f1.cs, f2.cs] (AV.int IntKind.i64 n0) [f0.cs, f1.cs, f2.cs] ∧ Q (AV.bool (decide (n0 ≥ (0 : Int)))) [f0.cs, f1.cs, f2.cs]
theorem r127 (s : List Int) (f0 : TGuard) (f1 : TEncl) (f2 : TGuard) (S : SpecF) (Fr : FuncId → List AV → Nat → List AV → Prop) (Sq : FuncId → List AV → List (List AV) → List (List AV) → Prop) (Q : AV → List (List AV) → Prop) : awpF Try.prog (mkS Try.prog S Fr Sq ⟨[], [], [131], [], []⟩ 0) 3 ⟨[0, 1, 4], [], [], []⟩ Try.f127 [.slc 3 (List.map (AV.int .i64) s), .fn 128 [] [.ref 0 0, .ref 1 0, .ref 2 0]] [⟨118, false, f0.cs⟩, ⟨26, false, f1.cs⟩, ⟨118, false, f2.cs⟩] Q = R127 s f0 f1 f2 S Fr Sq Q := by kernel_rfl
theorem s127 (s : List Int) (f0 : TGuard) (f1 : TEncl) (f2 : TGuard) (v : AV) (O : List (List AV)) (h : R127 s f0 f1 f2 (SpecOf Try.prog) (FreshOf Try.prog) (SeqOf Try.prog) (fun r O' => r = v ∧ O' = O)) : SpecOf Try.prog 127 [.slc 3 (List.map (AV.int .i64) s), .fn 128 [] [.ref 0 0, .ref 1 0, .ref 2 0]] [f0.cs, f1.cs, f2.cs] v O :=
  spec_by (boxes := [⟨118, false, f0.cs⟩, ⟨26, false, f1.cs⟩, ⟨118, false, f2.cs⟩]) mixed (by exact trivial) Try.func127 Try.call127 rfl rfl rfl (Nat.le_of_ble_eq_true rfl) (r127 s f0 f1 f2 (SpecOf Try.prog) (FreshOf Try.prog) (SeqOf Try.prog) _) h
theorem c127 (s : List Int) (g : TGuard) (b : TEncl) (o : TGuard) (hl : s.length ≤ 1000000) (hg : GOK g) (ho : GOK o) (hb : CB b) : Sp 127 [.slc 3 (List.map (AV.int .i64) s), .fn 128 [] [.ref 0 0, .ref 1 0, .ref 2 0]] [g.cs, b.cs, o.cs] (.bool (s.any (wantB g o b))) [g.cs, b.cs, o.cs] := s127 s g b o _ _ (by
  refine ⟨_, c131 s g b o hl hg ho hb, ?_, rfl⟩
  rw [idxP_ge])
theorem flatI (s : List Int) : (s.map (AV.int .i64)).flatMap AV.cells = s.map (AV.int .i64) ∧ ones (s.map (AV.int .i64)) = true := by
  induction s with
  | nil => exact ⟨rfl, rfl⟩
  | cons x r ih =>
    refine ⟨by simp only [List.map_cons, List.flatMap_cons, ih.1]; rfl, ?_⟩
    have := ih.2
    simp only [ones, List.map_cons, List.all_cons, Bool.and_eq_true] at this ⊢
    exact ⟨rfl, this⟩
def gCur (g : TGuard) : List Int := g.fuse.Points.map (·.Current)
def oCur (o : TGuard) : List Int := o.fuse.Points.map (fun p => p.Current - o.besides)
def probes (g o : TGuard) (b : TEncl) : List Int := b.Lo :: gCur g ++ oCur o
def yieldsB (g o : TGuard) (b : TEncl) : Bool := (probes g o b).any (wantB g o b)
theorem agg3 : isAggT Try.prog 3 = false := by kernel_rfl
theorem take_map1 {α β : Type} {f : α → β} {l : List α} {k : Nat} {x : α} (h : l[k]? = some x) : (l.map f).take (k + 1) = (l.map f).take k ++ [f x] := by
  rw [List.take_add_one, List.getElem?_map, h]; rfl
def R107 (g : TGuard) (other : TGuard) (b : TEncl) (S : SpecF) (Fr : FuncId → List AV → Nat → List AV → Prop) (Sq : FuncId → List AV → List (List AV) → List (List AV) → Prop) (Q : AV → List (List AV) → Prop) : Prop :=
  ∃ (I0 : Nat → List AV → Prop), (∃ es2, (es2.length = (1 : Nat) ∧ List.flatMap AV.cells es2 = [AV.int IntKind.i64 b.Lo]) ∧ ∃ m4, I0 m4 [AV.int IntKind.i64 (0 : Int), AV.slc (3 : Nat) es2]) ∧ ∀ (m2 : Nat) (n3 : Int) (es4 : List AV), I0 m2 [AV.int IntKind.i64 n3, AV.slc (3 : Nat) es4] → (decide (n3 < (↑(List.map TFePoint.av g.fuse.Points).length : Int)) = true → ∃ n8 n9 n10, ((0 : Int) ≤ n3 ∧ (3 : Nat) = (3 : Nat) ∧ (List.map TFePoint.av g.fuse.Points)[n3.toNat]? = some (AV.agg [AV.int IntKind.i64 n8, AV.int IntKind.i64 n9, AV.int IntKind.i64 n10])) ∧ elemsOf (1 : Nat) [AV.int IntKind.i64 n8] ∧ ((List.flatMap AV.cells es4).length = es4.length * (1 : Nat) ∧ (es4.length + (1 : Nat) + (200 : Nat)) * (9 : Nat) ≤ (70368744177664 : Nat) ∧ ones [AV.int IntKind.i64 n8] = true ∧ ones (List.flatMap AV.cells es4) = true) ∧ g.cs = g.cs ∧ other.cs = other.cs ∧ b.cs = b.cs ∧ ∃ es17, (es17.length = es4.length + (1 : Nat) ∧ List.flatMap AV.cells es17 = List.flatMap AV.cells es4 ++ [AV.int IntKind.i64 n8]) ∧ ∃ k19, k19 < m2 ∧ I0 k19 [AV.int IntKind.i64 (IntKind.i64.wrap (n3 + (1 : Int))), AV.slc (3 : Nat) es17]) ∧ (decide (n3 < (↑(List.map TFePoint.av g.fuse.Points).length : Int)) = false → ∃ (I8 : Nat → List AV → Prop), (∃ es10, (es10.length = es4.length ∧ List.flatMap AV.cells es10 = List.flatMap AV.cells es4) ∧ ∃ m12, I8 m12 [AV.int IntKind.i64 (0 : Int), AV.slc (3 : Nat) es10]) ∧ ∀ (m10 : Nat) (n11 : Int) (es12 : List AV), I8 m10 [AV.int IntKind.i64 n11, AV.slc (3 : Nat) es12] → (decide (n11 < (↑(List.map TFePoint.av other.fuse.Points).length : Int)) = true → ∃ n16 n17 n18, ((0 : Int) ≤ n11 ∧ (3 : Nat) = (3 : Nat) ∧ (List.map TFePoint.av other.fuse.Points)[n11.toNat]? = some (AV.agg [AV.int IntKind.i64 n16, AV.int IntKind.i64 n17, AV.int IntKind.i64 n18])) ∧ elemsOf (1 : Nat) [AV.int IntKind.i64 (IntKind.i64.wrap (n16 - other.besides))] ∧ ((List.flatMap AV.cells es12).length = es12.length * (1 : Nat) ∧ (es12.length + (1 : Nat) + (200 : Nat)) * (9 : Nat) ≤ (70368744177664 : Nat) ∧ ones [AV.int IntKind.i64 (IntKind.i64.wrap (n16 - other.besides))] = true ∧ ones (List.flatMap AV.cells es12) = true) ∧ g.cs = g.cs ∧ other.cs = other.cs ∧ b.cs = b.cs ∧ ∃ es25, (es25.length = es12.length + (1 : Nat) ∧ List.flatMap AV.cells es25 = List.flatMap AV.cells es12 ++ [AV.int IntKind.i64 (IntKind.i64.wrap (n16 - other.besides))]) ∧ ∃ k27, k27 < m10 ∧ I8 k27 [AV.int IntKind.i64 (IntKind.i64.wrap (n11 + (1 : Int))), AV.slc (3 : Nat) es25]) ∧ (decide (n11 < (↑(List.map TFePoint.av other.fuse.Points).length : Int)) = false → ((0 : Nat) + es12.length * (1 : Nat) ≤ (List.flatMap AV.cells es12).length ∧ ones (List.flatMap AV.cells es12) = true) ∧ ∃ b17, S (127 : Nat) [AV.slc (3 : Nat) (chunks (1 : Nat) (isAggT Try.prog (3 : Nat)) es12.length (List.drop (0 : Nat) (List.flatMap AV.cells es12))), AV.fn (128 : Nat) [] [AV.ref (0 : Nat) (0 : Nat), AV.ref (1 : Nat) (0 : Nat), AV.ref (2 : Nat) (0 : Nat)]] [g.cs, b.cs, other.cs] (AV.bool b17) [g.cs, b.cs, other.cs] ∧ Q (AV.bool b17) []))
theorem r107 (g : TGuard) (other : TGuard) (b : TEncl) (S : SpecF) (Fr : FuncId → List AV → Nat → List AV → Prop) (Sq : FuncId → List AV → List (List AV) → List (List AV) → Prop) (Q : AV → List (List AV) → Prop) : awpF Try.prog (mkS Try.prog S Fr Sq ⟨[], [], [127], [], [14]⟩ 0) 0 ⟨[0, 1, 2, 3, 4, 5, 6, 7, 9, 11, 17, 18, 19, 20, 31, 32, 33, 34], [⟨3, [(19, .int .i64 0)], [(7, 3)], [], [], []⟩, ⟨8, [(33, .int .i64 0)], [(7, 3)], [], [], []⟩], [], []⟩ Try.f107 [g.av, other.av, b.av] [] Q = R107 g other b S Fr Sq Q := by kernel_rfl
theorem s107 (g : TGuard) (other : TGuard) (b : TEncl) (v : AV) (O : List (List AV)) (h : R107 g other b (SpecOf Try.prog) (FreshOf Try.prog) (SeqOf Try.prog) (fun r O' => r = v ∧ O' = O)) : SpecOf Try.prog 107 [g.av, other.av, b.av] [] v O :=
  spec_by (boxes := []) mixed (by exact trivial) Try.func107 Try.call107 rfl rfl rfl (Nat.le_of_ble_eq_true rfl) (r107 g other b (SpecOf Try.prog) (FreshOf Try.prog) (SeqOf Try.prog) _) h
theorem c107 (g o : TGuard) (b : TEncl) (hg : GOK g) (ho : GOK o) (hb : CB b) : Sp 107 [g.av, o.av, b.av] [] (.bool (yieldsB g o b)) [] := s107 g o b _ _ (by
  unfold R107
  simp only [List.length_map]
  have gl := hg.fuse.len; have ol := ho.fuse.len
  have glen : (gCur g).length = g.fuse.Points.length := by simp [gCur]
  have olen : (oCur o).length = o.fuse.Points.length := by simp [oCur]
  have F := flatI
  let L1 : Nat → List Int := fun k => b.Lo :: (gCur g).take k
  refine ⟨fun m vs => ∃ k : Nat, k ≤ g.fuse.Points.length ∧ m = g.fuse.Points.length - k ∧ vs = [.int .i64 k, .slc 3 ((L1 k).map (AV.int .i64))], ⟨[.int .i64 b.Lo], ⟨rfl, rfl⟩, _, 0, by omega, rfl, rfl⟩, ?_⟩
  rintro m n es ⟨k, hk, rfl, hv⟩
  cases hv
  refine ⟨fun h => ?_, fun h => ?_⟩
  · have h : k < g.fuse.Points.length := by simpa using h
    obtain ⟨p, hp, hp'⟩ := map_getN (f := TFePoint.av) h
    have hnext : L1 (k + 1) = L1 k ++ [p.Current] := by show b.Lo :: _ = _; unfold gCur; rw [take_map1 hp]; rfl
    have hl : (L1 k).length ≤ 9 := by show ((gCur g).take k).length + 1 ≤ 9; rw [List.length_take]; omega
    refine ⟨p.Current, p.Melt.Lo, p.Melt.Hi, ⟨by omega, trivial, hp'⟩, ?_, ⟨?_, ?_, rfl, ?_⟩, by trivial, by trivial, by trivial, (L1 (k + 1)).map (AV.int .i64), ⟨?_, ?_⟩, _, (by omega : g.fuse.Points.length - (k + 1) < g.fuse.Points.length - k), k + 1, by omega, rfl, ?_⟩
    · intro v hv; rw [List.mem_singleton] at hv; rw [hv]; rfl
    · rw [(F _).1]; simp
    · simp only [List.length_map]; omega
    · rw [(F _).1]; exact (F _).2
    · rw [hnext]; simp
    · rw [(F _).1, (F _).1, hnext, List.map_append]; rfl
    · rw [wrapN (by omega)]
  · have hk : k = g.fuse.Points.length := by simp at h; omega
    subst hk
    let L2 : Nat → List Int := fun k => b.Lo :: gCur g ++ (oCur o).take k
    have h0 : L1 g.fuse.Points.length = L2 0 := by show b.Lo :: _ = b.Lo :: _ ++ _; rw [List.take_of_length_le (by omega)]; simp
    rw [h0]
    refine ⟨fun m vs => ∃ k : Nat, k ≤ o.fuse.Points.length ∧ m = o.fuse.Points.length - k ∧ vs = [.int .i64 k, .slc 3 ((L2 k).map (AV.int .i64))], ⟨_, ⟨rfl, rfl⟩, _, 0, by omega, rfl, rfl⟩, ?_⟩
    rintro m n es ⟨k, hk, rfl, hv⟩
    cases hv
    refine ⟨fun h => ?_, fun h => ?_⟩
    · have h : k < o.fuse.Points.length := by simpa using h
      obtain ⟨p, hp, hp'⟩ := map_getN (f := TFePoint.av) h
      have hpo := (ho.fuse.pts p (List.mem_of_getElem? hp)).1
      have hw : IntKind.i64.wrap (p.Current - o.besides) = p.Current - o.besides := i64 (by have := ho.bes; omega)
      have hnext : L2 (k + 1) = L2 k ++ [p.Current - o.besides] := by
        show b.Lo :: gCur g ++ _ = b.Lo :: gCur g ++ _ ++ _
        unfold oCur; rw [take_map1 hp, List.append_assoc]
      have hl : (L2 k).length ≤ 17 := by
        show (b.Lo :: gCur g ++ (oCur o).take k).length ≤ 17
        rw [List.length_append, List.length_cons, List.length_take]; omega
      refine ⟨p.Current, p.Melt.Lo, p.Melt.Hi, ⟨by omega, trivial, hp'⟩, ?_, ⟨?_, ?_, rfl, ?_⟩, by trivial, by trivial, by trivial, (L2 (k + 1)).map (AV.int .i64), ⟨?_, ?_⟩, _, (by omega : o.fuse.Points.length - (k + 1) < o.fuse.Points.length - k), k + 1, by omega, rfl, ?_⟩
      · intro v hv; rw [List.mem_singleton] at hv; rw [hv]; rfl
      · rw [(F _).1]; simp
      · simp only [List.length_map]; omega
      · rw [(F _).1]; exact (F _).2
      · rw [hnext]; simp
      · rw [(F _).1, (F _).1, hnext, List.map_append, hw]; rfl
      · rw [wrapN (by omega)]
    · have hk : k = o.fuse.Points.length := by simp at h; omega
      subst hk
      have hL : L2 o.fuse.Points.length = probes g o b := by
        show b.Lo :: gCur g ++ _ = _
        rw [List.take_of_length_le (by omega)]; rfl
      rw [hL, (F _).1]
      have hl : (probes g o b).length ≤ 17 := by unfold probes; rw [List.length_append, List.length_cons]; omega
      refine ⟨⟨by simp, (F _).2⟩, (probes g o b).any (wantB g o b), ?_, rfl, trivial⟩
      have : chunks 1 (isAggT Try.prog 3) ((probes g o b).map (AV.int .i64)).length (List.drop 0 ((probes g o b).map (AV.int .i64))) = (probes g o b).map (AV.int .i64) := by
        rw [agg3]; simp only [chunks, List.drop_zero]; rw [if_neg (by simp)]; exact List.take_of_length_le (Nat.le_refl _)
      rw [this]
      exact c127 _ g b o (by omega) hg ho hb)
def RY126 (v0 : List TGuard) (l : Nat) (Y : Nat → List AV → Prop) (len : Nat) : Prop :=
  ∃ (I0 : Nat → Nat → List AV → Prop), (∃ m2, I0 m2 (0 : Nat) [AV.int IntKind.i64 (IntKind.i64.wrap ((↑(List.map TGuard.av v0).length : Int) - (1 : Int)))]) ∧ ∀ (m2 i3 : Nat) (n4 : Int), I0 m2 i3 [AV.int IntKind.i64 n4] → (decide (n4 ≥ (0 : Int)) = true → ∃ n8 s9 n10 es11 n12, ((0 : Int) ≤ n4 ∧ (5 : Nat) = (5 : Nat) ∧ (List.map TGuard.av v0)[n4.toNat]? = some (AV.agg [AV.int IntKind.i64 n8, AV.str s9, AV.int IntKind.i64 n10, AV.slc (3 : Nat) es11, AV.int IntKind.i64 n12])) ∧ l = l ∧ Y i3 [AV.int IntKind.i64 n4, AV.agg [AV.int IntKind.i64 n8, AV.str s9, AV.int IntKind.i64 n10, AV.slc (3 : Nat) es11, AV.int IntKind.i64 n12]] ∧ (((19 : Nat) = (19 : Nat) ∧ AV.yld l = AV.yld l ∧ AV.ref (0 : Nat) (0 : Nat) = AV.ref (0 : Nat) (0 : Nat) ∧ True) ∧ [AV.slc (3 : Nat) (List.map TGuard.av v0)] = [AV.slc (3 : Nat) (List.map TGuard.av v0)] ∧ ∃ k19, k19 < m2 ∧ I0 k19 (i3 + (1 : Nat)) [AV.int IntKind.i64 (IntKind.i64.wrap (n4 - (1 : Int)))]) ∧ True) ∧ (decide (n4 ≥ (0 : Int)) = false → i3 = len)
theorem ry126 (v0 : List TGuard) (l : Nat) (Y : Nat → List AV → Prop) (len : Nat) : awpS Try.prog 1 l Y ⟨[0, 1, 3, 8, 18], [⟨1, [(3, .int .i64 0)], [], [], [], []⟩], [], []⟩ Try.f126 [.ref 0 0] [⟨115, false, [.slc 3 (List.map TGuard.av v0)]⟩] len = RY126 v0 l Y len := by kernel_rfl
theorem sq126 (v0 : List TGuard) (xs : List (List AV)) (h : ∀ l, RY126 v0 l (fun i x => xs[i]? = some x) xs.length) : SeqOf Try.prog 126 [.ref 0 0] [[.slc 3 (List.map TGuard.av v0)]] xs :=
  seq_by (boxes := [⟨115, false, [.slc 3 (List.map TGuard.av v0)]⟩]) Try.func126 Try.call126 rfl rfl rfl rfl (fun l => ry126 v0 l _ _) h
theorem c126 (l : List TGuard) (hl : l.length ≤ 1000000) : Sqf 126 [.ref 0 0] [[.slc 3 (List.map TGuard.av l)]] (backX TGuard.av l) := sq126 l _ (fun y => by
  unfold RY126
  simp only [List.length_map]
  rw [i64 (n := (l.length : Int) - 1) (by omega)]
  refine ⟨fun m i vs => i ≤ l.length ∧ m = l.length - i ∧ vs = [.int .i64 ((l.length : Int) - 1 - i)], ⟨_, by omega, rfl, by simp⟩, ?_⟩
  rintro m i n ⟨hi, rfl, hv⟩
  cases hv
  refine ⟨fun h => ?_, fun h => ?_⟩
  · have h : i < l.length := by simp at h; omega
    obtain ⟨p, h1, h2⟩ := rev_get h
    have e : ((l.length : Int) - 1 - i).toNat = l.length - 1 - i := by omega
    refine ⟨p.node, p.fuse.Name, p.fuse.Rated, List.map TFePoint.av p.fuse.Points, p.besides, ⟨by omega, trivial, by rw [e, List.getElem?_map, h2]; rfl⟩, trivial, backX_get h1, ⟨⟨trivial, trivial, trivial, trivial⟩, trivial, _, (by omega : l.length - (i + 1) < l.length - i), by omega, rfl, ?_⟩, trivial⟩
    rw [i64 (by omega)]; congr 2; omega
  · rw [backX_len]; simp at h; omega)
end Go.Proofs.Ytbdbnpnichkcjaa

/- Contracts: the reference's disturbed protections. Contracts: the reference's faults of a protection. Contracts: the reference's Judge. -/
import Derived.Test.YtbdbnpnichkcjaaRi
import Derived.Test.YtbdbnpnichkcjaaX6
import Derived.Test.YtbdbnpnichkcjaaZ6
namespace Go.Proofs.Ytbdbnpnichkcjaa
open Go.RowKit
/-- The reference asks of a current whether the one opens, but not certainly before the other. -/
theorem want_eq {f : TFeFeeder} {a b : Nat} {e : TEncl} {n : Int} : wantB (guardS f a) (guardS f b) e n = (inB n e.Lo e.Hi && ((meltS (fz f a) n).2 && !befB f a b n)) := by
  unfold wantB befB
  show (inB n e.Lo e.Hi && ((meltS (fz f a) n).2 && _)) = _
  cases inB n e.Lo e.Hi <;> cases (meltS (fz f a) n).2 <;> rfl
theorem cells3 : Try.prog.underlying 3 = some (.int .i64) := by kernel_rfl
theorem partI {l : List Int} {k : Nat} {x : Int} (h : l[k]? = some x) : Option.map AV.norm (partA Try.prog 3 (l.map (AV.int .i64)) (0 + k * 1)) = some (.int .i64 x) := by
  unfold partA
  rw [cells3]
  simp only [Nat.zero_add, Nat.mul_one, List.getElem?_map, h]; rfl
def R108 (f : TFeFeeder) (one : Int) (other : Int) (b : TEncl) (S : SpecF) (_Fr : FuncId → List AV → Nat → List AV → Prop) (_Sq : FuncId → List AV → List (List AV) → List (List AV) → Prop) (Q : AV → List (List AV) → Prop) : Prop :=
  ∃ s0 n1 n2 n3 n4 n5 n6 n7 n8 n9 n10, ((0 : Int) ≤ one ∧ (11 : Nat) = (11 : Nat) ∧ (List.map TFeNode.av f.Nodes)[one.toNat]? = some (AV.agg [AV.str s0, AV.int .i64 n1, AV.int .i64 n2, AV.int .i64 n3, AV.int .i64 n4, AV.int .i64 n5, AV.int .i64 n6, AV.int .i64 n7, AV.int .i64 n8, AV.int .i64 n9, AV.int .i64 n10])) ∧ ∃ s12 n13 es14, ((0 : Int) ≤ n4 ∧ (3 : Nat) = (3 : Nat) ∧ (List.map TFeFuse.av f.Fuses)[n4.toNat]? = some (AV.agg [AV.str s12, AV.int .i64 n13, AV.slc (3 : Nat) es14])) ∧ ∃ (I16 : Nat → List AV → Prop), (∃ es18, (es18.length = (1 : Nat) ∧ List.flatMap AV.cells es18 = [AV.int .i64 b.Lo]) ∧ ∃ m20, I16 m20 [AV.int .i64 (0 : Int), AV.slc (3 : Nat) es18]) ∧ ∀ (m18 : Nat) (n19 : Int) (es20 : List AV), I16 m18 [AV.int .i64 n19, AV.slc (3 : Nat) es20] → (decide (n19 < (↑es14.length : Int)) = true → ∃ n24 n25 n26, ((0 : Int) ≤ n19 ∧ (3 : Nat) = (3 : Nat) ∧ es14[n19.toNat]? = some (AV.agg [AV.int .i64 n24, AV.int .i64 n25, AV.int .i64 n26])) ∧ elemsOf (1 : Nat) [AV.int .i64 n24] ∧ ((List.flatMap AV.cells es20).length = es20.length * (1 : Nat) ∧ (es20.length + (1 : Nat) + (200 : Nat)) * (9 : Nat) ≤ (70368744177664 : Nat) ∧ ones [AV.int .i64 n24] = true ∧ ones (List.flatMap AV.cells es20) = true) ∧ f.cs = f.cs ∧ b.cs = b.cs ∧ ∃ es32, (es32.length = es20.length + (1 : Nat) ∧ List.flatMap AV.cells es32 = List.flatMap AV.cells es20 ++ [AV.int .i64 n24]) ∧ ∃ k34, k34 < m18 ∧ I16 k34 [AV.int .i64 (IntKind.i64.wrap (n19 + (1 : Int))), AV.slc (3 : Nat) es32]) ∧ (decide (n19 < (↑es14.length : Int)) = false → ∃ s24 n25 n26 n27 n28 n29 n30 n31 n32 n33 n34, ((0 : Int) ≤ other ∧ (11 : Nat) = (11 : Nat) ∧ (List.map TFeNode.av f.Nodes)[other.toNat]? = some (AV.agg [AV.str s24, AV.int .i64 n25, AV.int .i64 n26, AV.int .i64 n27, AV.int .i64 n28, AV.int .i64 n29, AV.int .i64 n30, AV.int .i64 n31, AV.int .i64 n32, AV.int .i64 n33, AV.int .i64 n34])) ∧ ∃ s36 n37 es38, ((0 : Int) ≤ n28 ∧ (3 : Nat) = (3 : Nat) ∧ (List.map TFeFuse.av f.Fuses)[n28.toNat]? = some (AV.agg [AV.str s36, AV.int .i64 n37, AV.slc (3 : Nat) es38])) ∧ ∃ (I40 : Nat → List AV → Prop), (∃ es42, (es42.length = es20.length ∧ List.flatMap AV.cells es42 = List.flatMap AV.cells es20) ∧ ∃ m44, I40 m44 [AV.int .i64 (0 : Int), AV.slc (3 : Nat) es42]) ∧ ∀ (m42 : Nat) (n43 : Int) (es44 : List AV), I40 m42 [AV.int .i64 n43, AV.slc (3 : Nat) es44] → (decide (n43 < (↑es38.length : Int)) = true → ∃ n48 n49 n50, ((0 : Int) ≤ n43 ∧ (3 : Nat) = (3 : Nat) ∧ es38[n43.toNat]? = some (AV.agg [AV.int .i64 n48, AV.int .i64 n49, AV.int .i64 n50])) ∧ ∃ n52, S (114 : Nat) [f.av, AV.int .i64 other] [] (AV.int .i64 n52) [] ∧ elemsOf (1 : Nat) [AV.int .i64 (IntKind.i64.wrap (n48 - n52))] ∧ ((List.flatMap AV.cells es44).length = es44.length * (1 : Nat) ∧ (es44.length + (1 : Nat) + (200 : Nat)) * (9 : Nat) ≤ (70368744177664 : Nat) ∧ ones [AV.int .i64 (IntKind.i64.wrap (n48 - n52))] = true ∧ ones (List.flatMap AV.cells es44) = true) ∧ f.cs = f.cs ∧ b.cs = b.cs ∧ ∃ es58, (es58.length = es44.length + (1 : Nat) ∧ List.flatMap AV.cells es58 = List.flatMap AV.cells es44 ++ [AV.int .i64 (IntKind.i64.wrap (n48 - n52))]) ∧ ∃ k60, k60 < m42 ∧ I40 k60 [AV.int .i64 (IntKind.i64.wrap (n43 + (1 : Int))), AV.slc (3 : Nat) es58]) ∧ (decide (n43 < (↑es38.length : Int)) = false → ∃ (I48 : Nat → List AV → Prop), (∃ m50, I48 m50 [AV.int .i64 (0 : Int)]) ∧ ∀ (m50 : Nat) (n51 : Int), I48 m50 [AV.int .i64 n51] → (decide (n51 < (↑es44.length : Int)) = true → ((0 : Int) ≤ n51 ∧ n51 < (↑es44.length : Int) ∧ (1 : Nat) = (1 : Nat)) ∧ ∃ n56, Option.map AV.norm (partA Try.prog (3 : Nat) (List.flatMap AV.cells es44) ((0 : Nat) + n51.toNat * (1 : Nat))) = some (AV.int .i64 n56) ∧ ∃ b58, S (55 : Nat) [AV.int .i64 n56, AV.int .i64 b.Lo, AV.int .i64 b.Hi] [] (AV.bool b58) [] ∧ ((!b58) = true → f.cs = f.cs ∧ b.cs = b.cs ∧ List.flatMap AV.cells es44 = List.flatMap AV.cells es44 ∧ ∃ k65, k65 < m50 ∧ I48 k65 [AV.int .i64 (IntKind.i64.wrap (n51 + (1 : Int)))]) ∧ ((!b58) = false → ∃ s62 n63 n64 n65 n66 n67 n68 n69 n70 n71 n72, ((0 : Int) ≤ one ∧ (11 : Nat) = (11 : Nat) ∧ (List.map TFeNode.av f.Nodes)[one.toNat]? = some (AV.agg [AV.str s62, AV.int .i64 n63, AV.int .i64 n64, AV.int .i64 n65, AV.int .i64 n66, AV.int .i64 n67, AV.int .i64 n68, AV.int .i64 n69, AV.int .i64 n70, AV.int .i64 n71, AV.int .i64 n72])) ∧ ∃ s74 n75 es76, ((0 : Int) ≤ n66 ∧ (3 : Nat) = (3 : Nat) ∧ (List.map TFeFuse.av f.Fuses)[n66.toNat]? = some (AV.agg [AV.str s74, AV.int .i64 n75, AV.slc (3 : Nat) es76])) ∧ ((0 : Int) ≤ n51 ∧ n51 < (↑es44.length : Int) ∧ (1 : Nat) = (1 : Nat)) ∧ ∃ n79, Option.map AV.norm (partA Try.prog (3 : Nat) (List.flatMap AV.cells es44) ((0 : Nat) + n51.toNat * (1 : Nat))) = some (AV.int .i64 n79) ∧ ∃ n81 n82 b83, S (77 : Nat) [AV.agg [AV.str s74, AV.int .i64 n75, AV.slc (3 : Nat) es76], AV.int .i64 n79] [] (AV.tup [AV.agg [AV.int .i64 n81, AV.int .i64 n82], AV.bool b83]) [] ∧ (b83 = true → ((0 : Int) ≤ n51 ∧ n51 < (↑es44.length : Int) ∧ (1 : Nat) = (1 : Nat)) ∧ ∃ n88, Option.map AV.norm (partA Try.prog (3 : Nat) (List.flatMap AV.cells es44) ((0 : Nat) + n51.toNat * (1 : Nat))) = some (AV.int .i64 n88) ∧ ∃ b90, S (83 : Nat) [f.av, AV.int .i64 one, AV.int .i64 other, AV.int .i64 n88] [] (AV.bool b90) [] ∧ ((!b90) = true → Q (AV.bool true) []) ∧ ((!b90) = false → f.cs = f.cs ∧ b.cs = b.cs ∧ List.flatMap AV.cells es44 = List.flatMap AV.cells es44 ∧ ∃ k97, k97 < m50 ∧ I48 k97 [AV.int .i64 (IntKind.i64.wrap (n51 + (1 : Int)))])) ∧ (b83 = false → f.cs = f.cs ∧ b.cs = b.cs ∧ List.flatMap AV.cells es44 = List.flatMap AV.cells es44 ∧ ∃ k90, k90 < m50 ∧ I48 k90 [AV.int .i64 (IntKind.i64.wrap (n51 + (1 : Int)))]))) ∧ (decide (n51 < (↑es44.length : Int)) = false → Q (AV.bool false) [])))
theorem r108 (f : TFeFeeder) (one : Int) (other : Int) (b : TEncl) (S : SpecF) (Fr : FuncId → List AV → Nat → List AV → Prop) (Sq : FuncId → List AV → List (List AV) → List (List AV) → Prop) (Q : AV → List (List AV) → Prop) : awpF Try.prog (mkS Try.prog S Fr Sq ⟨[], [], [], [], [19]⟩ 0) 0 ⟨[0, 1, 2, 3, 4, 7, 8, 9, 10, 11, 12, 13, 14, 16, 34, 59, 77, 89, 119], [⟨4, [(11, .int .i64 0)], [(9, 3)], [], [], []⟩, ⟨9, [(13, .int .i64 0)], [(9, 3)], [], [], []⟩, ⟨13, [(14, .int .i64 0)], [], [], [], []⟩], [], []⟩ Try.f108 [f.av, .int .i64 one, .int .i64 other, b.av] [] Q = R108 f one other b S Fr Sq Q := by kernel_rfl
theorem s108 (f : TFeFeeder) (one : Int) (other : Int) (b : TEncl) (v : AV) (O : List (List AV)) (h : R108 f one other b (SpecOf Try.prog) (FreshOf Try.prog) (SeqOf Try.prog) (fun r O' => r = v ∧ O' = O)) : SpecOf Try.prog 108 [f.av, .int .i64 one, .int .i64 other, b.av] [] v O :=
  spec_by (boxes := []) mixed (by exact trivial) Try.func108 Try.call108 rfl rfl rfl (Nat.le_of_ble_eq_true rfl) (r108 f one other b (SpecOf Try.prog) (FreshOf Try.prog) (SeqOf Try.prog) _) h
theorem c108 {f : TFeFeeder} (hf : OK f) (a o : Nat) (ha : a ≠ 0 ∧ a < f.Nodes.length ∧ 0 ≤ (nd f a).Fuse) (ho : o ≠ 0 ∧ o < f.Nodes.length ∧ 0 ≤ (nd f o).Fuse) (b : TEncl) (hb : CB b) :
    Sp 108 [f.av, .int .i64 a, .int .i64 o, b.av] [] (.bool (yieldsB (guardS f a) (guardS f o) b)) [] := s108 f a o b _ _ (by
  unfold R108
  obtain ⟨a0, a1, a2⟩ := ha
  obtain ⟨o0, o1, o2⟩ := ho
  have ka := fuse_ok hf (fz_get hf a1 a0 a2)
  have ko := fuse_ok hf (fz_get hf o1 o0 o2)
  have gl := ka.len; have ol := ko.len
  have hbes := bes_bound hf o
  have F := flatI
  have g1 : gCur (guardS f a) = (fz f a).Points.map (·.Current) := rfl
  have o1' : oCur (guardS f o) = (fz f o).Points.map (fun p => p.Current - besS f o) := rfl
  have glen : (gCur (guardS f a)).length = (fz f a).Points.length := by rw [g1, List.length_map]
  have olen : (oCur (guardS f o)).length = (fz f o).Points.length := by rw [o1', List.length_map]
  refine ⟨(nd f a).Name, (nd f a).Parent, (nd f a).Cable, (nd f a).Length, (nd f a).Fuse, (nd f a).Loads0.Lo, (nd f a).Loads0.Hi, (nd f a).Loads1.Lo, (nd f a).Loads1.Hi, (nd f a).Loads2.Lo, (nd f a).Loads2.Hi, ⟨by omega, rfl, nd_av a1⟩, (fz f a).Name, (fz f a).Rated, List.map TFePoint.av (fz f a).Points, ⟨a2, rfl, fz_av hf a1 a0 a2⟩, ?_⟩
  simp only [List.length_map]
  let L1 : Nat → List Int := fun k => b.Lo :: (gCur (guardS f a)).take k
  refine ⟨fun m vs => ∃ k : Nat, k ≤ (fz f a).Points.length ∧ m = (fz f a).Points.length - k ∧ vs = [.int .i64 k, .slc 3 ((L1 k).map (AV.int .i64))], ⟨[.int .i64 b.Lo], ⟨rfl, rfl⟩, _, 0, by omega, rfl, rfl⟩, ?_⟩
  rintro m n es ⟨k, hk, rfl, hv⟩
  cases hv
  refine ⟨fun h => ?_, fun h => ?_⟩
  · have h : k < (fz f a).Points.length := by simpa using h
    obtain ⟨p, hp, hp'⟩ := map_getN (f := TFePoint.av) h
    have hnext : L1 (k + 1) = L1 k ++ [p.Current] := by show b.Lo :: _ = _; rw [g1, take_map1 hp]; rfl
    have hl : (L1 k).length ≤ 9 := by show ((gCur (guardS f a)).take k).length + 1 ≤ 9; rw [List.length_take]; omega
    refine ⟨p.Current, p.Melt.Lo, p.Melt.Hi, ⟨by omega, trivial, hp'⟩, ?_, ⟨?_, ?_, rfl, ?_⟩, by trivial, by trivial, (L1 (k + 1)).map (AV.int .i64), ⟨?_, ?_⟩, _, (by omega : (fz f a).Points.length - (k + 1) < (fz f a).Points.length - k), k + 1, by omega, rfl, ?_⟩
    · intro v hv; rw [List.mem_singleton] at hv; rw [hv]; rfl
    · rw [(F _).1]; simp
    · simp only [List.length_map]; omega
    · rw [(F _).1]; exact (F _).2
    · rw [hnext]; simp
    · rw [(F _).1, (F _).1, hnext, List.map_append]; rfl
    · rw [wrapN (by omega)]
  · have hk : k = (fz f a).Points.length := by simp at h; omega
    subst hk
    let L2 : Nat → List Int := fun k => b.Lo :: gCur (guardS f a) ++ (oCur (guardS f o)).take k
    have h0 : L1 (fz f a).Points.length = L2 0 := by show b.Lo :: _ = b.Lo :: _ ++ _; rw [List.take_of_length_le (by omega)]; simp
    rw [h0]
    refine ⟨(nd f o).Name, (nd f o).Parent, (nd f o).Cable, (nd f o).Length, (nd f o).Fuse, (nd f o).Loads0.Lo, (nd f o).Loads0.Hi, (nd f o).Loads1.Lo, (nd f o).Loads1.Hi, (nd f o).Loads2.Lo, (nd f o).Loads2.Hi, ⟨by omega, trivial, nd_av o1⟩, (fz f o).Name, (fz f o).Rated, List.map TFePoint.av (fz f o).Points, ⟨o2, trivial, fz_av hf o1 o0 o2⟩, ?_⟩
    simp only [List.length_map]
    refine ⟨fun m vs => ∃ k : Nat, k ≤ (fz f o).Points.length ∧ m = (fz f o).Points.length - k ∧ vs = [.int .i64 k, .slc 3 ((L2 k).map (AV.int .i64))], ⟨(L2 0).map (AV.int .i64), ⟨by simp, rfl⟩, _, 0, by omega, rfl, rfl⟩, ?_⟩
    rintro m n es ⟨k, hk, rfl, hv⟩
    cases hv
    refine ⟨fun h => ?_, fun h => ?_⟩
    · have h : k < (fz f o).Points.length := by simpa using h
      obtain ⟨p, hp, hp'⟩ := map_getN (f := TFePoint.av) h
      have hpo := (ko.pts p (List.mem_of_getElem? hp)).1
      have hw : IntKind.i64.wrap (p.Current - besS f o) = p.Current - besS f o := i64 (by omega)
      have hnext : L2 (k + 1) = L2 k ++ [p.Current - besS f o] := by
        show b.Lo :: gCur (guardS f a) ++ _ = b.Lo :: gCur (guardS f a) ++ _ ++ _
        rw [o1', take_map1 hp, List.append_assoc]
      have hl : (L2 k).length ≤ 17 := by
        show (b.Lo :: gCur (guardS f a) ++ (oCur (guardS f o)).take k).length ≤ 17
        rw [List.length_append, List.length_cons, List.length_take]; omega
      refine ⟨p.Current, p.Melt.Lo, p.Melt.Hi, ⟨by omega, trivial, hp'⟩, _, c114 hf o, ?_, ⟨?_, ?_, rfl, ?_⟩, by trivial, by trivial, (L2 (k + 1)).map (AV.int .i64), ⟨?_, ?_⟩, _, (by omega : (fz f o).Points.length - (k + 1) < (fz f o).Points.length - k), k + 1, by omega, rfl, ?_⟩
      · intro v hv; rw [List.mem_singleton] at hv; rw [hv]; rfl
      · rw [(F _).1]; simp
      · simp only [List.length_map]; omega
      · rw [(F _).1]; exact (F _).2
      · rw [hnext]; simp
      · rw [(F _).1, (F _).1, hnext, List.map_append, hw]; rfl
      · rw [wrapN (by omega)]
    · have hk : k = (fz f o).Points.length := by simp at h; omega
      subst hk
      have hL : L2 (fz f o).Points.length = probes (guardS f a) (guardS f o) b := by
        show b.Lo :: gCur (guardS f a) ++ _ = _
        rw [List.take_of_length_le (by omega)]; rfl
      rw [hL]
      have hl : (probes (guardS f a) (guardS f o) b).length ≤ 17 := by unfold probes; rw [List.length_append, List.length_cons]; omega
      unfold yieldsB
      rw [show wantB (guardS f a) (guardS f o) b = fun n => (inB n b.Lo b.Hi && ((meltS (fz f a) n).2 && !befB f a o n)) from funext fun n => want_eq]
      generalize probes (guardS f a) (guardS f o) b = P at hl
      refine ⟨fun m vs => ∃ k : Nat, k ≤ P.length ∧ m = P.length - k ∧ vs = [.int .i64 k] ∧ ((P.take k).any fun n => (inB n b.Lo b.Hi && ((meltS (fz f a) n).2 && !befB f a o n))) = false, ⟨_, 0, by omega, rfl, rfl, rfl⟩, ?_⟩
      rintro m n ⟨k, hk, rfl, hv, hany⟩
      cases hv
      refine ⟨fun g => ?_, fun g => ⟨?_, trivial⟩⟩
      · have g : k < P.length := by simpa using g
        obtain ⟨x, hx⟩ : ∃ x, P[k]? = some x := ⟨_, List.getElem?_eq_getElem g⟩
        have hp := partI hx
        have hs := any_take (q := fun n => (inB n b.Lo b.Hi && ((meltS (fz f a) n).2 && !befB f a o n))) hx
        rw [hany, Bool.false_or] at hs
        have hflat := (F P).1
        have fin : ((P.take (k + 1)).any fun n => (inB n b.Lo b.Hi && ((meltS (fz f a) n).2 && !befB f a o n))) = false → ∃ m', m' < P.length - k ∧ ∃ j : Nat, j ≤ P.length ∧ m' = P.length - j ∧ [AV.int .i64 (IntKind.i64.wrap ((k : Int) + 1))] = [.int .i64 j] ∧ ((P.take j).any fun n => (inB n b.Lo b.Hi && ((meltS (fz f a) n).2 && !befB f a o n))) = false := fun h =>
          ⟨_, (by omega : P.length - (k + 1) < P.length - k), k + 1, by omega, rfl, by rw [wrapN (by omega)], h⟩
        have hx2 : Option.map AV.norm (partA Try.prog 3 ((P.map (AV.int .i64)).flatMap AV.cells) (0 + (k : Int).toNat * 1)) = some (.int .i64 x) := by rw [hflat, Int.toNat_natCast]; exact hp
        refine ⟨⟨by omega, by rw [List.length_map]; omega, trivial⟩, x, hx2, _, c55 _ _ _, fun q1 => ?_, fun q1 => ⟨(nd f a).Name, (nd f a).Parent, (nd f a).Cable, (nd f a).Length, (nd f a).Fuse, (nd f a).Loads0.Lo, (nd f a).Loads0.Hi, (nd f a).Loads1.Lo, (nd f a).Loads1.Hi, (nd f a).Loads2.Lo, (nd f a).Loads2.Hi, ⟨by omega, trivial, nd_av a1⟩, (fz f a).Name, (fz f a).Rated, List.map TFePoint.av (fz f a).Points, ⟨a2, trivial, fz_av hf a1 a0 a2⟩, ⟨by omega, by rw [List.length_map]; omega, trivial⟩, x, hx2, _, _, _, c77 (fz f a) x (by omega), fun q2 => ⟨⟨by omega, by rw [List.length_map]; omega, trivial⟩, x, hx2, _, c83 hf a o ⟨a0, a1, a2⟩ ⟨o0, o1, o2⟩ x ?_, fun q3 => ⟨?_, trivial⟩, fun q3 => ?_⟩, fun q2 => ?_⟩⟩
        · repeat refine And.intro trivial ?_
          exact fin (by rw [hs, show inB x b.Lo b.Hi = false from by simpa using q1]; rfl)
        · have := inB_iff.1 (by simpa using q1 : inB x b.Lo b.Hi = true)
          unfold CB at hb; omega
        · have : (P.any fun n => (inB n b.Lo b.Hi && ((meltS (fz f a) n).2 && !befB f a o n))) = true := List.any_eq_true.2 ⟨x, List.mem_of_getElem? hx, by rw [show inB x b.Lo b.Hi = true from by simpa using q1, q2]; simpa using q3⟩
          rw [this]
        · repeat refine And.intro trivial ?_
          exact fin (by rw [hs, q2, show befB f a o x = true from by simpa using q3]; simp)
        · repeat refine And.intro trivial ?_
          exact fin (by rw [hs, q2]; simp)
      · have : k = P.length := by simp at g; omega
        subst this
        rw [List.take_length] at hany; rw [hany])
end Go.Proofs.Ytbdbnpnichkcjaa
namespace Go.Proofs.Ytbdbnpnichkcjaa
open Go.RowKit
/-- The others of a list of nodes, as the reference looks for them. -/
def othN (f : TFeFeeder) (node a : Nat) (b : TEncl) (l : List Nat) : List TFeFault := (l.filter (fun o : Nat => !(o == a) && yieldsB (guardS f a) (guardS f o) b)).map fun o : Nat => ⟨163, node, (o : Int)⟩
theorem othN_take {f : TFeFeeder} {node a : Nat} {b : TEncl} {l : List Nat} {k x : Nat} (h : l[k]? = some x) : othN f node a b (l.take (k + 1)) = othN f node a b (l.take k) ++ if !(x == a) && yieldsB (guardS f a) (guardS f x) b then [⟨163, node, x⟩] else [] := by
  unfold othN; rw [take_filter h, List.map_append]
  congr 1
  split <;> rfl
theorem othN_len {f : TFeFeeder} {node a : Nat} {b : TEncl} {l : List Nat} : (othN f node a b l).length ≤ l.length := by
  unfold othN; rw [List.length_map]; exact List.length_filter_le _ _
theorem othN_eq {f : TFeFeeder} {node a : Nat} {b : TEncl} {r : List Nat} (h : a ∉ r) : othN f node a b (a :: r).reverse = othL node (guardS f a) b (r.map (guardS f)).reverse := by
  unfold othN othL
  rw [List.reverse_cons, List.filter_append, ← List.map_reverse, List.filter_map, List.map_map]
  have e1 : [a].filter (fun o => !(o == a) && yieldsB (guardS f a) (guardS f o) b) = [] := by simp
  rw [e1, List.append_nil]
  have e2 : r.reverse.filter (fun o => !(o == a) && yieldsB (guardS f a) (guardS f o) b) = r.reverse.filter ((fun o => yieldsB (guardS f a) o b) ∘ guardS f) := by
    refine List.filter_congr fun x hx => ?_
    have : x ≠ a := fun e => h (by rw [← e]; exact List.mem_reverse.1 hx)
    simp [this]
  rw [e2]; rfl
theorem gn_nodup {f : TFeFeeder} (hf : OK f) {node : Nat} (h : node < f.Nodes.length) : (gn f node).Nodup := (upL_nodup hf h).filter _
theorem nI_get {l : List Nat} {k x : Nat} (h : l[k]? = some x) : (l.map nI)[(k : Int).toNat]? = some (nI x) := by rw [Int.toNat_natCast, List.getElem?_map, h]; rfl
def R73 (f : TFeFeeder) (node : Int) (earth : Bool) (S : SpecF) (_Fr : FuncId → List AV → Nat → List AV → Prop) (_Sq : FuncId → List AV → List (List AV) → List (List AV) → Prop) (Q : AV → List (List AV) → Prop) : Prop :=
  ∃ n0, S (72 : Nat) [f.av, AV.int .i64 node] [] (AV.int .i64 n0) [] ∧ ∃ n2 n3, S (67 : Nat) [f.av, AV.int .i64 node, AV.bool earth] [] (AV.agg [AV.int .i64 n2, AV.int .i64 n3]) [] ∧ ∃ s5 n6 n7 n8 n9 n10 n11 n12 n13 n14 n15, ((0 : Int) ≤ n0 ∧ (11 : Nat) = (11 : Nat) ∧ (List.map TFeNode.av f.Nodes)[n0.toNat]? = some (AV.agg [AV.str s5, AV.int .i64 n6, AV.int .i64 n7, AV.int .i64 n8, AV.int .i64 n9, AV.int .i64 n10, AV.int .i64 n11, AV.int .i64 n12, AV.int .i64 n13, AV.int .i64 n14, AV.int .i64 n15])) ∧ ∃ s17 n18 es19, ((0 : Int) ≤ n9 ∧ (3 : Nat) = (3 : Nat) ∧ (List.map TFeFuse.av f.Fuses)[n9.toNat]? = some (AV.agg [AV.str s17, AV.int .i64 n18, AV.slc (3 : Nat) es19])) ∧ ∃ n21 n22 b23, S (77 : Nat) [AV.agg [AV.str s17, AV.int .i64 n18, AV.slc (3 : Nat) es19], AV.int .i64 n2] [] (AV.tup [AV.agg [AV.int .i64 n21, AV.int .i64 n22], AV.bool b23]) [] ∧ ∃ (J25 : List AV → Prop), (((!b23) = true → elemsOf (3 : Nat) [AV.agg [AV.int .i64 (162 : Int), AV.int .i64 node, AV.int .i64 n0]] ∧ (((1 : Nat) + (200 : Nat)) * (25 : Nat) ≤ (70368744177664 : Nat) ∧ ones [AV.int .i64 (162 : Int), AV.int .i64 node, AV.int .i64 n0] = true) ∧ f.cs = f.cs ∧ [AV.int .i64 n2, AV.int .i64 n3] = [AV.int .i64 n2, AV.int .i64 n3] ∧ [AV.int .i64 n21, AV.int .i64 n22] = [AV.int .i64 n21, AV.int .i64 n22] ∧ ∃ es34, (es34.length = (1 : Nat) ∧ List.flatMap AV.cells es34 = [AV.int .i64 (162 : Int), AV.int .i64 node, AV.int .i64 n0]) ∧ J25 [AV.slc (3 : Nat) es34]) ∧ ((!b23) = false → (decide (n22 > f.Limit) = true → elemsOf (3 : Nat) [AV.agg [AV.int .i64 (162 : Int), AV.int .i64 node, AV.int .i64 n0]] ∧ (((1 : Nat) + (200 : Nat)) * (25 : Nat) ≤ (70368744177664 : Nat) ∧ ones [AV.int .i64 (162 : Int), AV.int .i64 node, AV.int .i64 n0] = true) ∧ f.cs = f.cs ∧ [AV.int .i64 n2, AV.int .i64 n3] = [AV.int .i64 n2, AV.int .i64 n3] ∧ [AV.int .i64 n21, AV.int .i64 n22] = [AV.int .i64 n21, AV.int .i64 n22] ∧ ∃ es36, (es36.length = (1 : Nat) ∧ List.flatMap AV.cells es36 = [AV.int .i64 (162 : Int), AV.int .i64 node, AV.int .i64 n0]) ∧ J25 [AV.slc (3 : Nat) es36]) ∧ (decide (n22 > f.Limit) = false → f.cs = f.cs ∧ [AV.int .i64 n2, AV.int .i64 n3] = [AV.int .i64 n2, AV.int .i64 n3] ∧ [AV.int .i64 n21, AV.int .i64 n22] = [AV.int .i64 n21, AV.int .i64 n22] ∧ J25 [AV.slc (3 : Nat) []]))) ∧ ∀ (es27 : List AV), J25 [AV.slc (3 : Nat) es27] → ∃ es29, S (82 : Nat) [f.av, AV.int .i64 node] [] (AV.slc (3 : Nat) es29) [] ∧ ∃ (I31 : Nat → List AV → Prop), (∃ es33, (es33.length = es27.length ∧ List.flatMap AV.cells es33 = List.flatMap AV.cells es27) ∧ ∃ m35, I31 m35 [AV.int .i64 (0 : Int), AV.slc (3 : Nat) es33]) ∧ ∀ (m33 : Nat) (n34 : Int) (es35 : List AV), I31 m33 [AV.int .i64 n34, AV.slc (3 : Nat) es35] → (decide (n34 < (↑es29.length : Int)) = true → ∃ n39, ((0 : Int) ≤ n34 ∧ (1 : Nat) = (1 : Nat) ∧ es29[n34.toNat]? = some (AV.int .i64 n39)) ∧ ((n39 != n0) = true → ∃ n43, ((0 : Int) ≤ n34 ∧ (1 : Nat) = (1 : Nat) ∧ es29[n34.toNat]? = some (AV.int .i64 n43)) ∧ ∃ b45, S (108 : Nat) [f.av, AV.int .i64 n0, AV.int .i64 n43, AV.agg [AV.int .i64 n2, AV.int .i64 n3]] [] (AV.bool b45) [] ∧ (b45 = true → ∃ n49, ((0 : Int) ≤ n34 ∧ (1 : Nat) = (1 : Nat) ∧ es29[n34.toNat]? = some (AV.int .i64 n49)) ∧ elemsOf (3 : Nat) [AV.agg [AV.int .i64 (163 : Int), AV.int .i64 node, AV.int .i64 n49]] ∧ ((List.flatMap AV.cells es35).length = es35.length * (3 : Nat) ∧ (es35.length + (1 : Nat) + (200 : Nat)) * (25 : Nat) ≤ (70368744177664 : Nat) ∧ ones [AV.int .i64 (163 : Int), AV.int .i64 node, AV.int .i64 n49] = true ∧ ones (List.flatMap AV.cells es35) = true) ∧ f.cs = f.cs ∧ [AV.int .i64 n2, AV.int .i64 n3] = [AV.int .i64 n2, AV.int .i64 n3] ∧ [AV.int .i64 n21, AV.int .i64 n22] = [AV.int .i64 n21, AV.int .i64 n22] ∧ ∃ es56, (es56.length = es35.length + (1 : Nat) ∧ List.flatMap AV.cells es56 = List.flatMap AV.cells es35 ++ [AV.int .i64 (163 : Int), AV.int .i64 node, AV.int .i64 n49]) ∧ ∃ k58, k58 < m33 ∧ I31 k58 [AV.int .i64 (IntKind.i64.wrap (n34 + (1 : Int))), AV.slc (3 : Nat) es56]) ∧ (b45 = false → f.cs = f.cs ∧ [AV.int .i64 n2, AV.int .i64 n3] = [AV.int .i64 n2, AV.int .i64 n3] ∧ [AV.int .i64 n21, AV.int .i64 n22] = [AV.int .i64 n21, AV.int .i64 n22] ∧ ∃ es52, (es52.length = es35.length ∧ List.flatMap AV.cells es52 = List.flatMap AV.cells es35) ∧ ∃ k54, k54 < m33 ∧ I31 k54 [AV.int .i64 (IntKind.i64.wrap (n34 + (1 : Int))), AV.slc (3 : Nat) es52])) ∧ ((n39 != n0) = false → f.cs = f.cs ∧ [AV.int .i64 n2, AV.int .i64 n3] = [AV.int .i64 n2, AV.int .i64 n3] ∧ [AV.int .i64 n21, AV.int .i64 n22] = [AV.int .i64 n21, AV.int .i64 n22] ∧ ∃ es46, (es46.length = es35.length ∧ List.flatMap AV.cells es46 = List.flatMap AV.cells es35) ∧ ∃ k48, k48 < m33 ∧ I31 k48 [AV.int .i64 (IntKind.i64.wrap (n34 + (1 : Int))), AV.slc (3 : Nat) es46])) ∧ (decide (n34 < (↑es29.length : Int)) = false → (0 : Nat) + es35.length * (3 : Nat) ≤ (List.flatMap AV.cells es35).length ∧ Q (AV.slc (3 : Nat) (chunks (3 : Nat) (isAggT Try.prog (44 : Nat)) es35.length (List.drop (0 : Nat) (List.flatMap AV.cells es35)))) [])
theorem r73 (f : TFeFeeder) (node : Int) (earth : Bool) (S : SpecF) (Fr : FuncId → List AV → Nat → List AV → Prop) (Sq : FuncId → List AV → List (List AV) → List (List AV) → Prop) (Q : AV → List (List AV) → Prop) : awpF Try.prog (mkS Try.prog S Fr Sq ⟨[], [], [], [], []⟩ 0) 0 ⟨[0, 1, 2, 3, 6, 7, 8, 9, 10, 11, 12, 13, 45, 58, 76], [⟨8, [(13, .int .i64 0)], [(7, 44)], [], [], []⟩], [⟨6, [], [(7, 44)], [], [], []⟩], []⟩ Try.f73 [f.av, .int .i64 node, .bool earth] [] Q = R73 f node earth S Fr Sq Q := by kernel_rfl
theorem s73 (f : TFeFeeder) (node : Int) (earth : Bool) (v : AV) (O : List (List AV)) (h : R73 f node earth (SpecOf Try.prog) (FreshOf Try.prog) (SeqOf Try.prog) (fun r O' => r = v ∧ O' = O)) : SpecOf Try.prog 73 [f.av, .int .i64 node, .bool earth] [] v O :=
  spec_by (boxes := []) mixed (by exact trivial) Try.func73 Try.call73 rfl rfl rfl (Nat.le_of_ble_eq_true rfl) (r73 f node earth (SpecOf Try.prog) (FreshOf Try.prog) (SeqOf Try.prog) _) h
theorem c73 {f : TFeFeeder} (hf : OK f) (node : Nat) (h : node < f.Nodes.length) (a : Nat) (r : List Nat) (hg : gn f node = a :: r) (earth : Bool) :
    Sp 73 [f.av, .int .i64 node, .bool earth] [] (.slc 3 ((earthL f node (guardS f a) (r.map (guardS f)) earth).map TFeFault.av)) [] := s73 f node earth _ _ (by
  unfold R73
  have ha := gn_mem hf h (show a ∈ gn f node by rw [hg]; simp)
  obtain ⟨a0, a1, a2⟩ := ha
  have ka := fuse_ok hf (fz_get hf a1 a0 a2)
  have hb := fault_bound hf h earth
  have hnd := gn_nodup hf h
  rw [hg] at hnd
  have hlen : (a :: r).length ≤ 40 := by rw [← hg]; exact Nat.le_trans (List.length_filter_le _ _) (upL_len40 hf h)
  have hown : ownS f node = (a : Nat) := by unfold ownS; rw [hg]
  have hmem : ∀ x ∈ a :: r, x ≠ 0 ∧ x < f.Nodes.length ∧ 0 ≤ (nd f x).Fuse := fun x hx => gn_mem hf h (by rw [hg]; exact hx)
  have c72' := c72 hf node h
  rw [hown] at c72'
  have c82' := c82 hf node h
  rw [hg] at c82'
  have hfin : earthL f node (guardS f a) (r.map (guardS f)) earth = slowL f node (guardS f a) (faultS f node earth) ++ othN f node a (faultS f node earth) (a :: r).reverse := by
    rw [othN_eq (List.nodup_cons.1 hnd).1]; rfl
  rw [hfin]
  clear hfin
  have hL : ∀ x ∈ (a :: r).reverse, x ≠ 0 ∧ x < f.Nodes.length ∧ 0 ≤ (nd f x).Fuse := fun x hx => hmem x (List.mem_reverse.1 hx)
  have hLl : (a :: r).reverse.length ≤ 40 := by rw [List.length_reverse]; exact hlen
  generalize hb0 : faultS f node earth = b at hb ⊢
  have c67' := c67 hf node h earth
  rw [hb0] at c67'
  have hsl := slowL_len (f := f) (i := node) (g := guardS f a) (b := b)
  refine ⟨_, c72', _, _, c67', (nd f a).Name, (nd f a).Parent, (nd f a).Cable, (nd f a).Length, (nd f a).Fuse, (nd f a).Loads0.Lo, (nd f a).Loads0.Hi, (nd f a).Loads1.Lo, (nd f a).Loads1.Hi, (nd f a).Loads2.Lo, (nd f a).Loads2.Hi, ⟨by omega, by trivial, nd_av a1⟩, (fz f a).Name, (fz f a).Rated, List.map TFePoint.av (fz f a).Points, ⟨a2, by trivial, fz_av hf a1 a0 a2⟩, _, _, _, c77 (fz f a) b.Lo (by have := ka.len; omega), fun vs => vs = [.slc 3 ((slowL f node (guardS f a) b).map TFeFault.av)], ⟨fun q => ?_, fun q => ⟨fun q2 => ?_, fun q2 => ?_⟩⟩, ?_⟩
  · have hs : slowL f node (guardS f a) b = [⟨162, node, a⟩] := by
      unfold slowL slowB; rw [if_pos]; · rfl
      · show (!(meltS (fz f a) b.Lo).2 || _) = true
        rw [q]; rfl
    rw [hs]
    refine ⟨?_, ⟨by decide, rfl⟩, ?_⟩
    · intro v hv; rw [List.mem_singleton] at hv; rw [hv]; rfl
    · repeat first | refine And.intro rfl ?_ | refine And.intro trivial ?_
      exact ⟨_, ⟨rfl, rfl⟩, rfl⟩
  · have hs : slowL f node (guardS f a) b = [⟨162, node, a⟩] := by
      unfold slowL slowB; rw [if_pos]; · rfl
      · show (_ || decide ((meltS (fz f a) b.Lo).1.Hi > f.Limit)) = true
        rw [q2, Bool.or_true]
    rw [hs]
    refine ⟨?_, ⟨by decide, rfl⟩, ?_⟩
    · intro v hv; rw [List.mem_singleton] at hv; rw [hv]; rfl
    · repeat first | refine And.intro rfl ?_ | refine And.intro trivial ?_
      exact ⟨_, ⟨rfl, rfl⟩, rfl⟩
  · have hs : slowL f node (guardS f a) b = [] := by
      unfold slowL slowB; rw [if_neg]
      show ¬ (!(meltS (fz f a) b.Lo).2 || decide ((meltS (fz f a) b.Lo).1.Hi > f.Limit)) = true
      rw [q, q2]; decide
    rw [hs]
    repeat first | refine And.intro rfl ?_ | refine And.intro trivial ?_
    rfl
  · rintro _ ⟨⟩
    refine ⟨_, c82', ?_⟩
    generalize (a :: r).reverse = L at hL hLl
    simp only [List.length_map]
    let A : Nat → List TFeFault := fun k => slowL f node (guardS f a) b ++ othN f node a b (L.take k)
    have hA0 : A 0 = slowL f node (guardS f a) b := by show _ ++ othN f node a b [] = _; simp [othN]
    have hAl : ∀ k, (A k).length ≤ 41 := fun k => by
      have := othN_len (f := f) (node := node) (a := a) (b := b) (l := L.take k)
      rw [List.length_take] at this
      show (slowL f node (guardS f a) b ++ othN f node a b (L.take k)).length ≤ 41
      rw [List.length_append]; omega
    refine ⟨fun m vs => ∃ k : Nat, k ≤ L.length ∧ m = L.length - k ∧ vs = [.int .i64 k, .slc 3 ((A k).map TFeFault.av)], ⟨_, ⟨by simp, rfl⟩, _, 0, by omega, rfl, by rw [hA0]; rfl⟩, ?_⟩
    rintro m n es ⟨k, hk, rfl, hv⟩
    cases hv
    refine ⟨fun g => ?_, fun g => ?_⟩
    · have g : k < L.length := by simpa using g
      obtain ⟨x, hx⟩ : ∃ x, L[k]? = some x := ⟨_, List.getElem?_eq_getElem g⟩
      have hxg := nI_get hx
      have hxm := hL x (List.mem_of_getElem? hx)
      have hw := wrapN (k := k) (by omega)
      have hstep : A (k + 1) = A k ++ if !(x == a) && yieldsB (guardS f a) (guardS f x) b then [⟨163, node, x⟩] else [] := by show _ ++ _ = _ ++ _ ++ _; rw [othN_take hx, List.append_assoc]
      have keep : (!(x == a) && yieldsB (guardS f a) (guardS f x) b) = false → ∃ es : List AV, (es.length = ((A k).map TFeFault.av).length ∧ List.flatMap AV.cells es = List.flatMap AV.cells ((A k).map TFeFault.av)) ∧ ∃ m', m' < L.length - k ∧ ∃ j : Nat, j ≤ L.length ∧ m' = L.length - j ∧ [AV.int .i64 (IntKind.i64.wrap ((k : Int) + 1)), .slc 3 es] = [.int .i64 j, .slc 3 ((A j).map TFeFault.av)] := fun hq =>
        ⟨_, ⟨rfl, rfl⟩, _, (by omega : L.length - (k + 1) < L.length - k), k + 1, by omega, rfl, by rw [hw, hstep, if_neg (by rw [hq]; simp), List.append_nil]⟩
      refine ⟨x, ⟨by omega, by trivial, hxg⟩, fun q => ?_, fun q => ?_⟩
      · have hne : (x == a) = false := by
          have : ((x : Int) != (a : Int)) = true := q
          simp only [bne_iff_ne, ne_eq] at this
          simp; omega
        refine ⟨x, ⟨by omega, by trivial, hxg⟩, _, c108 hf a x ⟨a0, a1, a2⟩ hxm b hb, fun q2 => ?_, fun q2 => ?_⟩
        · obtain ⟨p1, p2⟩ := app_ok (L := A k) (by have := hAl k; omega) 163 node x
          rw [cells44] at p2
          refine ⟨x, ⟨by omega, by trivial, hxg⟩, p1, p2, ?_⟩
          repeat first | refine And.intro rfl ?_ | refine And.intro trivial ?_
          refine ⟨((A (k + 1)).map TFeFault.av), ?_, _, (by omega : L.length - (k + 1) < L.length - k), k + 1, by omega, rfl, by rw [hw]⟩
          rw [hstep, if_pos (by rw [hne, q2]; rfl)]
          exact app_next _ _ _ _
        · repeat first | refine And.intro rfl ?_ | refine And.intro trivial ?_
          exact keep (by rw [q2, Bool.and_false])
      · repeat first | refine And.intro rfl ?_ | refine And.intro trivial ?_
        refine keep ?_
        have : (x == a) = true := by
          have : ((x : Int) != (a : Int)) = false := q
          simp only [bne_eq_false_iff_eq] at this
          simp; omega
        rw [this]; rfl
    · have : k = L.length := by simp at g; omega
      subst this
      have hAe : A L.length = slowL f node (guardS f a) b ++ othN f node a b L := by show _ ++ othN f node a b (L.take L.length) = _; rw [List.take_length]
      rw [hAe]
      obtain ⟨f1, f2, f3, f4⟩ := flatF (slowL f node (guardS f a) b ++ othN f node a b L)
      refine ⟨by rw [f2, List.length_map]; omega, ?_, by trivial⟩
      rw [agg44]; simp only [chunks, if_true, List.drop_zero, List.length_map]; rw [f4])
end Go.Proofs.Ytbdbnpnichkcjaa
namespace Go.Proofs.Ytbdbnpnichkcjaa
open Go.RowKit
def mostC (f : TFeFeeder) (i : Nat) : Int := if hasF f i then (if (fz f i).Rated < (cb f i).Rated then (fz f i).Rated else (cb f i).Rated) else (cb f i).Rated
theorem load_most {f : TFeFeeder} {i : Nat} {p : Int} : decide (hiP f i p > mostC f i) = loadB f i p := by
  unfold mostC loadB
  cases hasF f i
  · simp
  · rw [if_pos rfl, Bool.true_and]
    by_cases h : (fz f i).Rated < (cb f i).Rated
    · rw [if_pos h]
      by_cases h2 : hiP f i p > (fz f i).Rated
      · simp [h2]
      · simp [h2]; omega
    · rw [if_neg h]
      by_cases h2 : hiP f i p > (cb f i).Rated
      · simp [h2]
      · simp [h2]; omega
def R23 (f : TFeFeeder) (S : SpecF) (_Fr : FuncId → List AV → Nat → List AV → Prop) (_Sq : FuncId → List AV → List (List AV) → List (List AV) → Prop) (Q : AV → List (List AV) → Prop) : Prop :=
  ∃ n0 n1 n2, S (16 : Nat) [f.av] [] (AV.tup [AV.int .i64 n0, AV.int .i64 n1, AV.int .i64 n2]) [] ∧ ((n2 != (0 : Int)) = true → Q (AV.tup [AV.slc (3 : Nat) [], AV.int .i64 n2]) []) ∧ ((n2 != (0 : Int)) = false → ∃ (I6 : Nat → List AV → Prop), (∃ m8, I6 m8 [AV.int .i64 (1 : Int), AV.slc (3 : Nat) []]) ∧ ∀ (m8 : Nat) (n9 : Int) (es10 : List AV), I6 m8 [AV.int .i64 n9, AV.slc (3 : Nat) es10] → (decide (n9 < (↑(List.map TFeNode.av f.Nodes).length : Int)) = true → ∃ s14 n15 n16 n17 n18 n19 n20 n21 n22 n23 n24, ((0 : Int) ≤ n9 ∧ (11 : Nat) = (11 : Nat) ∧ (List.map TFeNode.av f.Nodes)[n9.toNat]? = some (AV.agg [AV.str s14, AV.int .i64 n15, AV.int .i64 n16, AV.int .i64 n17, AV.int .i64 n18, AV.int .i64 n19, AV.int .i64 n20, AV.int .i64 n21, AV.int .i64 n22, AV.int .i64 n23, AV.int .i64 n24])) ∧ ∃ s26 n27 n28 n29 n30 n31, ((0 : Int) ≤ n16 ∧ (6 : Nat) = (6 : Nat) ∧ (List.map TFeCable.av f.Cables)[n16.toNat]? = some (AV.agg [AV.str s26, AV.int .i64 n27, AV.int .i64 n28, AV.int .i64 n29, AV.int .i64 n30, AV.int .i64 n31])) ∧ ∃ (J33 : List AV → Prop), ((decide (n18 ≥ (0 : Int)) = true → ∃ s37 n38 es39, ((0 : Int) ≤ n18 ∧ (3 : Nat) = (3 : Nat) ∧ (List.map TFeFuse.av f.Fuses)[n18.toNat]? = some (AV.agg [AV.str s37, AV.int .i64 n38, AV.slc (3 : Nat) es39])) ∧ f.cs = f.cs ∧ List.flatMap AV.cells es10 = List.flatMap AV.cells es10 ∧ [AV.str s14, AV.int .i64 n15, AV.int .i64 n16, AV.int .i64 n17, AV.int .i64 n18, AV.int .i64 n19, AV.int .i64 n20, AV.int .i64 n21, AV.int .i64 n22, AV.int .i64 n23, AV.int .i64 n24] = [AV.str s14, AV.int .i64 n15, AV.int .i64 n16, AV.int .i64 n17, AV.int .i64 n18, AV.int .i64 n19, AV.int .i64 n20, AV.int .i64 n21, AV.int .i64 n22, AV.int .i64 n23, AV.int .i64 n24] ∧ J33 [AV.int .i64 (if n38 < n31 then n38 else n31)]) ∧ (decide (n18 ≥ (0 : Int)) = false → f.cs = f.cs ∧ List.flatMap AV.cells es10 = List.flatMap AV.cells es10 ∧ [AV.str s14, AV.int .i64 n15, AV.int .i64 n16, AV.int .i64 n17, AV.int .i64 n18, AV.int .i64 n19, AV.int .i64 n20, AV.int .i64 n21, AV.int .i64 n22, AV.int .i64 n23, AV.int .i64 n24] = [AV.str s14, AV.int .i64 n15, AV.int .i64 n16, AV.int .i64 n17, AV.int .i64 n18, AV.int .i64 n19, AV.int .i64 n20, AV.int .i64 n21, AV.int .i64 n22, AV.int .i64 n23, AV.int .i64 n24] ∧ J33 [AV.int .i64 n31])) ∧ ∀ (n35 : Int), J33 [AV.int .i64 n35] → ∃ (I37 : Nat → List AV → Prop), (∃ es39, (es39.length = es10.length ∧ List.flatMap AV.cells es39 = List.flatMap AV.cells es10) ∧ ∃ m41, I37 m41 [AV.int .i64 (0 : Int), AV.slc (3 : Nat) es39]) ∧ ∀ (m39 : Nat) (n40 : Int) (es41 : List AV), I37 m39 [AV.int .i64 n40, AV.slc (3 : Nat) es41] → (decide (n40 < (3 : Int)) = true → ∃ n45 n46 n47 n48 n49 n50, S (71 : Nat) [f.av, AV.int .i64 n9] [] (AV.agg [AV.int .i64 n45, AV.int .i64 n46, AV.int .i64 n47, AV.int .i64 n48, AV.int .i64 n49, AV.int .i64 n50]) [] ∧ ((0 : Int) ≤ n40 ∧ n40 < (3 : Int)) ∧ (n40 = (2 : Int) → (decide (n50 > n35) = true → elemsOf (3 : Nat) [AV.agg [AV.int .i64 (160 : Int), AV.int .i64 n9, AV.int .i64 n40]] ∧ ((List.flatMap AV.cells es41).length = es41.length * (3 : Nat) ∧ (es41.length + (1 : Nat) + (200 : Nat)) * (25 : Nat) ≤ (70368744177664 : Nat) ∧ ones [AV.int .i64 (160 : Int), AV.int .i64 n9, AV.int .i64 n40] = true ∧ ones (List.flatMap AV.cells es41) = true) ∧ f.cs = f.cs ∧ [AV.str s14, AV.int .i64 n15, AV.int .i64 n16, AV.int .i64 n17, AV.int .i64 n18, AV.int .i64 n19, AV.int .i64 n20, AV.int .i64 n21, AV.int .i64 n22, AV.int .i64 n23, AV.int .i64 n24] = [AV.str s14, AV.int .i64 n15, AV.int .i64 n16, AV.int .i64 n17, AV.int .i64 n18, AV.int .i64 n19, AV.int .i64 n20, AV.int .i64 n21, AV.int .i64 n22, AV.int .i64 n23, AV.int .i64 n24] ∧ ∃ es61, (es61.length = es41.length + (1 : Nat) ∧ List.flatMap AV.cells es61 = List.flatMap AV.cells es41 ++ [AV.int .i64 (160 : Int), AV.int .i64 n9, AV.int .i64 n40]) ∧ ∃ k63, k63 < m39 ∧ I37 k63 [AV.int .i64 (IntKind.i64.wrap (n40 + (1 : Int))), AV.slc (3 : Nat) es61]) ∧ (decide (n50 > n35) = false → f.cs = f.cs ∧ [AV.str s14, AV.int .i64 n15, AV.int .i64 n16, AV.int .i64 n17, AV.int .i64 n18, AV.int .i64 n19, AV.int .i64 n20, AV.int .i64 n21, AV.int .i64 n22, AV.int .i64 n23, AV.int .i64 n24] = [AV.str s14, AV.int .i64 n15, AV.int .i64 n16, AV.int .i64 n17, AV.int .i64 n18, AV.int .i64 n19, AV.int .i64 n20, AV.int .i64 n21, AV.int .i64 n22, AV.int .i64 n23, AV.int .i64 n24] ∧ ∃ es59, (es59.length = es41.length ∧ List.flatMap AV.cells es59 = List.flatMap AV.cells es41) ∧ ∃ k61, k61 < m39 ∧ I37 k61 [AV.int .i64 (IntKind.i64.wrap (n40 + (1 : Int))), AV.slc (3 : Nat) es59])) ∧ (n40 = (1 : Int) → (decide (n48 > n35) = true → elemsOf (3 : Nat) [AV.agg [AV.int .i64 (160 : Int), AV.int .i64 n9, AV.int .i64 n40]] ∧ ((List.flatMap AV.cells es41).length = es41.length * (3 : Nat) ∧ (es41.length + (1 : Nat) + (200 : Nat)) * (25 : Nat) ≤ (70368744177664 : Nat) ∧ ones [AV.int .i64 (160 : Int), AV.int .i64 n9, AV.int .i64 n40] = true ∧ ones (List.flatMap AV.cells es41) = true) ∧ f.cs = f.cs ∧ [AV.str s14, AV.int .i64 n15, AV.int .i64 n16, AV.int .i64 n17, AV.int .i64 n18, AV.int .i64 n19, AV.int .i64 n20, AV.int .i64 n21, AV.int .i64 n22, AV.int .i64 n23, AV.int .i64 n24] = [AV.str s14, AV.int .i64 n15, AV.int .i64 n16, AV.int .i64 n17, AV.int .i64 n18, AV.int .i64 n19, AV.int .i64 n20, AV.int .i64 n21, AV.int .i64 n22, AV.int .i64 n23, AV.int .i64 n24] ∧ ∃ es62, (es62.length = es41.length + (1 : Nat) ∧ List.flatMap AV.cells es62 = List.flatMap AV.cells es41 ++ [AV.int .i64 (160 : Int), AV.int .i64 n9, AV.int .i64 n40]) ∧ ∃ k64, k64 < m39 ∧ I37 k64 [AV.int .i64 (IntKind.i64.wrap (n40 + (1 : Int))), AV.slc (3 : Nat) es62]) ∧ (decide (n48 > n35) = false → f.cs = f.cs ∧ [AV.str s14, AV.int .i64 n15, AV.int .i64 n16, AV.int .i64 n17, AV.int .i64 n18, AV.int .i64 n19, AV.int .i64 n20, AV.int .i64 n21, AV.int .i64 n22, AV.int .i64 n23, AV.int .i64 n24] = [AV.str s14, AV.int .i64 n15, AV.int .i64 n16, AV.int .i64 n17, AV.int .i64 n18, AV.int .i64 n19, AV.int .i64 n20, AV.int .i64 n21, AV.int .i64 n22, AV.int .i64 n23, AV.int .i64 n24] ∧ ∃ es60, (es60.length = es41.length ∧ List.flatMap AV.cells es60 = List.flatMap AV.cells es41) ∧ ∃ k62, k62 < m39 ∧ I37 k62 [AV.int .i64 (IntKind.i64.wrap (n40 + (1 : Int))), AV.slc (3 : Nat) es60])) ∧ (n40 = (0 : Int) → (decide (n46 > n35) = true → elemsOf (3 : Nat) [AV.agg [AV.int .i64 (160 : Int), AV.int .i64 n9, AV.int .i64 n40]] ∧ ((List.flatMap AV.cells es41).length = es41.length * (3 : Nat) ∧ (es41.length + (1 : Nat) + (200 : Nat)) * (25 : Nat) ≤ (70368744177664 : Nat) ∧ ones [AV.int .i64 (160 : Int), AV.int .i64 n9, AV.int .i64 n40] = true ∧ ones (List.flatMap AV.cells es41) = true) ∧ f.cs = f.cs ∧ [AV.str s14, AV.int .i64 n15, AV.int .i64 n16, AV.int .i64 n17, AV.int .i64 n18, AV.int .i64 n19, AV.int .i64 n20, AV.int .i64 n21, AV.int .i64 n22, AV.int .i64 n23, AV.int .i64 n24] = [AV.str s14, AV.int .i64 n15, AV.int .i64 n16, AV.int .i64 n17, AV.int .i64 n18, AV.int .i64 n19, AV.int .i64 n20, AV.int .i64 n21, AV.int .i64 n22, AV.int .i64 n23, AV.int .i64 n24] ∧ ∃ es63, (es63.length = es41.length + (1 : Nat) ∧ List.flatMap AV.cells es63 = List.flatMap AV.cells es41 ++ [AV.int .i64 (160 : Int), AV.int .i64 n9, AV.int .i64 n40]) ∧ ∃ k65, k65 < m39 ∧ I37 k65 [AV.int .i64 (IntKind.i64.wrap (n40 + (1 : Int))), AV.slc (3 : Nat) es63]) ∧ (decide (n46 > n35) = false → f.cs = f.cs ∧ [AV.str s14, AV.int .i64 n15, AV.int .i64 n16, AV.int .i64 n17, AV.int .i64 n18, AV.int .i64 n19, AV.int .i64 n20, AV.int .i64 n21, AV.int .i64 n22, AV.int .i64 n23, AV.int .i64 n24] = [AV.str s14, AV.int .i64 n15, AV.int .i64 n16, AV.int .i64 n17, AV.int .i64 n18, AV.int .i64 n19, AV.int .i64 n20, AV.int .i64 n21, AV.int .i64 n22, AV.int .i64 n23, AV.int .i64 n24] ∧ ∃ es61, (es61.length = es41.length ∧ List.flatMap AV.cells es61 = List.flatMap AV.cells es41) ∧ ∃ k63, k63 < m39 ∧ I37 k63 [AV.int .i64 (IntKind.i64.wrap (n40 + (1 : Int))), AV.slc (3 : Nat) es61])) ∧ True) ∧ (decide (n40 < (3 : Int)) = false → ∃ (I45 : Nat → List AV → Prop), (∃ es47, (es47.length = es41.length ∧ List.flatMap AV.cells es47 = List.flatMap AV.cells es41) ∧ ∃ m49, I45 m49 [AV.int .i64 (0 : Int), AV.slc (3 : Nat) es47]) ∧ ∀ (m47 : Nat) (n48 : Int) (es49 : List AV), I45 m47 [AV.int .i64 n48, AV.slc (3 : Nat) es49] → (decide (n48 < (3 : Int)) = true → ∃ n53, S (64 : Nat) [f.av, AV.int .i64 n9, AV.int .i64 n48] [] (AV.int .i64 n53) [] ∧ (decide (n53 > f.Drop) = true → elemsOf (3 : Nat) [AV.agg [AV.int .i64 (161 : Int), AV.int .i64 n9, AV.int .i64 n48]] ∧ ((List.flatMap AV.cells es49).length = es49.length * (3 : Nat) ∧ (es49.length + (1 : Nat) + (200 : Nat)) * (25 : Nat) ≤ (70368744177664 : Nat) ∧ ones [AV.int .i64 (161 : Int), AV.int .i64 n9, AV.int .i64 n48] = true ∧ ones (List.flatMap AV.cells es49) = true) ∧ f.cs = f.cs ∧ [AV.str s14, AV.int .i64 n15, AV.int .i64 n16, AV.int .i64 n17, AV.int .i64 n18, AV.int .i64 n19, AV.int .i64 n20, AV.int .i64 n21, AV.int .i64 n22, AV.int .i64 n23, AV.int .i64 n24] = [AV.str s14, AV.int .i64 n15, AV.int .i64 n16, AV.int .i64 n17, AV.int .i64 n18, AV.int .i64 n19, AV.int .i64 n20, AV.int .i64 n21, AV.int .i64 n22, AV.int .i64 n23, AV.int .i64 n24] ∧ ∃ es61, (es61.length = es49.length + (1 : Nat) ∧ List.flatMap AV.cells es61 = List.flatMap AV.cells es49 ++ [AV.int .i64 (161 : Int), AV.int .i64 n9, AV.int .i64 n48]) ∧ ∃ k63, k63 < m47 ∧ I45 k63 [AV.int .i64 (IntKind.i64.wrap (n48 + (1 : Int))), AV.slc (3 : Nat) es61]) ∧ (decide (n53 > f.Drop) = false → f.cs = f.cs ∧ [AV.str s14, AV.int .i64 n15, AV.int .i64 n16, AV.int .i64 n17, AV.int .i64 n18, AV.int .i64 n19, AV.int .i64 n20, AV.int .i64 n21, AV.int .i64 n22, AV.int .i64 n23, AV.int .i64 n24] = [AV.str s14, AV.int .i64 n15, AV.int .i64 n16, AV.int .i64 n17, AV.int .i64 n18, AV.int .i64 n19, AV.int .i64 n20, AV.int .i64 n21, AV.int .i64 n22, AV.int .i64 n23, AV.int .i64 n24] ∧ ∃ es59, (es59.length = es49.length ∧ List.flatMap AV.cells es59 = List.flatMap AV.cells es49) ∧ ∃ k61, k61 < m47 ∧ I45 k61 [AV.int .i64 (IntKind.i64.wrap (n48 + (1 : Int))), AV.slc (3 : Nat) es59])) ∧ (decide (n48 < (3 : Int)) = false → ∃ n53, S (72 : Nat) [f.av, AV.int .i64 n9] [] (AV.int .i64 n53) [] ∧ (decide (n53 < (0 : Int)) = true → elemsOf (3 : Nat) [AV.agg [AV.int .i64 (164 : Int), AV.int .i64 n9, AV.int .i64 (-1 : Int)]] ∧ ((List.flatMap AV.cells es49).length = es49.length * (3 : Nat) ∧ (es49.length + (1 : Nat) + (200 : Nat)) * (25 : Nat) ≤ (70368744177664 : Nat) ∧ ones [AV.int .i64 (164 : Int), AV.int .i64 n9, AV.int .i64 (-1 : Int)] = true ∧ ones (List.flatMap AV.cells es49) = true) ∧ f.cs = f.cs ∧ ∃ es60, (es60.length = es49.length + (1 : Nat) ∧ List.flatMap AV.cells es60 = List.flatMap AV.cells es49 ++ [AV.int .i64 (164 : Int), AV.int .i64 n9, AV.int .i64 (-1 : Int)]) ∧ ∃ k62, k62 < m8 ∧ I6 k62 [AV.int .i64 (IntKind.i64.wrap (n9 + (1 : Int))), AV.slc (3 : Nat) es60]) ∧ (decide (n53 < (0 : Int)) = false → ∃ es57, S (73 : Nat) [f.av, AV.int .i64 n9, AV.bool false] [] (AV.slc (3 : Nat) es57) [] ∧ elemsOf (3 : Nat) es57 ∧ ((List.flatMap AV.cells es49).length = es49.length * (3 : Nat) ∧ (es49.length + es57.length + (200 : Nat)) * (25 : Nat) ≤ (70368744177664 : Nat) ∧ ones (List.flatMap AV.cells es57) = true ∧ ones (List.flatMap AV.cells es49) = true) ∧ ∃ es61, S (73 : Nat) [f.av, AV.int .i64 n9, AV.bool true] [] (AV.slc (3 : Nat) es61) [] ∧ elemsOf (3 : Nat) es61 ∧ ((List.flatMap AV.cells es49 ++ List.flatMap AV.cells es57).length = (es49.length + es57.length) * (3 : Nat) ∧ (es49.length + es57.length + es61.length + (200 : Nat)) * (25 : Nat) ≤ (70368744177664 : Nat) ∧ ones (List.flatMap AV.cells es61) = true ∧ ones (List.flatMap AV.cells es49 ++ List.flatMap AV.cells es57) = true) ∧ f.cs = f.cs ∧ ∃ es66, (es66.length = es49.length + es57.length + es61.length ∧ List.flatMap AV.cells es66 = List.flatMap AV.cells es49 ++ List.flatMap AV.cells es57 ++ List.flatMap AV.cells es61) ∧ ∃ k68, k68 < m8 ∧ I6 k68 [AV.int .i64 (IntKind.i64.wrap (n9 + (1 : Int))), AV.slc (3 : Nat) es66])))) ∧ (decide (n9 < (↑(List.map TFeNode.av f.Nodes).length : Int)) = false → (0 : Nat) + es10.length * (3 : Nat) ≤ (List.flatMap AV.cells es10).length ∧ Q (AV.tup [AV.slc (3 : Nat) (chunks (3 : Nat) (isAggT Try.prog (44 : Nat)) es10.length (List.drop (0 : Nat) (List.flatMap AV.cells es10))), AV.int .i64 (0 : Int)]) []))
theorem r23 (f : TFeFeeder) (S : SpecF) (Fr : FuncId → List AV → Nat → List AV → Prop) (Sq : FuncId → List AV → List (List AV) → List (List AV) → Prop) (Q : AV → List (List AV) → Prop) : awpF Try.prog (mkS Try.prog S Fr Sq ⟨[], [], [], [], []⟩ 0) 0 ⟨[0, 1, 2, 3, 6, 7, 8, 9, 10, 11, 12, 20, 26, 43, 54, 64, 72, 81, 91], [⟨6, [(8, .int .i64 0)], [(7, 44)], [], [], []⟩, ⟨13, [(11, .int .i64 0)], [(7, 44)], [], [], []⟩, ⟨18, [(12, .int .i64 0)], [(7, 44)], [], [], []⟩], [⟨12, [(10, .int .i64 0)], [], [], [], []⟩], []⟩ Try.f23 [f.av] [] Q = R23 f S Fr Sq Q := by kernel_rfl
theorem s23 (f : TFeFeeder) (v : AV) (O : List (List AV)) (h : R23 f (SpecOf Try.prog) (FreshOf Try.prog) (SeqOf Try.prog) (fun r O' => r = v ∧ O' = O)) : SpecOf Try.prog 23 [f.av] [] v O :=
  spec_by (boxes := []) mixed (by exact trivial) Try.func23 Try.call23 rfl rfl rfl (Nat.le_of_ble_eq_true rfl) (r23 f (SpecOf Try.prog) (FreshOf Try.prog) (SeqOf Try.prog) _) h
set_option maxRecDepth 10000 in
theorem c23 (f : TFeFeeder) (hn : NOK f) : Sp 23 [f.av] [] (.tup [.slc 3 ((judgeR f).1.map TFeFault.av), .int .i64 (judgeR f).2]) [] := s23 f _ _ (by
  unfold R23
  refine ⟨_, _, _, c16 f hn, fun h => ⟨?_, by trivial⟩, fun h => ?_⟩
  · have h : (checkF f).2.2 ≠ 0 := by simpa using h
    rw [judgeR, if_pos h]; rfl
  have h : (checkF f).2.2 = 0 := by simpa using h
  have hf := ok_of h
  have hJ : judgeR f = (judgeL f f.Nodes.length, 0) := by rw [judgeR, if_neg (by simp [h])]
  rw [hJ]
  have hnn := hf.nn
  have hpos := hf.pos
  have hjl := fun i (hi : i ≤ f.Nodes.length) => judgeL_len hf i hi
  simp only [List.length_map]
  refine ⟨fun m vs => ∃ i : Nat, 1 ≤ i ∧ i ≤ f.Nodes.length ∧ m = f.Nodes.length - i ∧ vs = [.int .i64 i, .slc 3 ((judgeL f i).map TFeFault.av)], ⟨_, 1, by omega, by omega, rfl, by simp [judgeL, lookZ]⟩, ?_⟩
  rintro m n es ⟨i, hi1, hi, rfl, hv⟩
  cases hv
  refine ⟨fun g => ?_, fun g => ?_⟩
  · have hlt : i < f.Nodes.length := by simpa using g
    have hi0 : i ≠ 0 := by omega
    have hc := (node_ok hf hlt hi0).cable
    have hB : (judgeL f i).length ≤ 3600 := by have := hjl i hi; omega
    have hB' : (judgeL f (i + 1)).length ≤ 3600 := by have := hjl (i + 1) (by omega); omega
    have hw := wrapN (k := i) (by omega)
    have hnext : judgeL f (i + 1) = judgeL f i ++ loadL f i 3 ++ dropL f i 3 ++ protL f i := by
      rw [judgeL, lookZ, if_neg hi0, lookL]
      · simp only [List.append_assoc]
      all_goals (intros; omega)
    generalize judgeL f i = B at hB hnext ⊢
    have goal : ∀ es : List AV, es = (judgeL f (i + 1)).map TFeFault.av → ∃ k, k < f.Nodes.length - i ∧ ∃ j : Nat, 1 ≤ j ∧ j ≤ f.Nodes.length ∧ k = f.Nodes.length - j ∧ [AV.int .i64 (IntKind.i64.wrap ((i : Int) + 1)), .slc 3 es] = [.int .i64 j, .slc 3 ((judgeL f j).map TFeFault.av)] := by
      rintro _ rfl
      exact ⟨_, (by omega : f.Nodes.length - (i + 1) < f.Nodes.length - i), i + 1, by omega, by omega, rfl, by rw [hw]⟩
    generalize judgeL f (i + 1) = C at hB' hnext goal
    refine ⟨(nd f i).Name, (nd f i).Parent, (nd f i).Cable, (nd f i).Length, (nd f i).Fuse, (nd f i).Loads0.Lo, (nd f i).Loads0.Hi, (nd f i).Loads1.Lo, (nd f i).Loads1.Hi, (nd f i).Loads2.Lo, (nd f i).Loads2.Hi, ⟨by omega, by trivial, nd_av hlt⟩, (cb f i).Name, (cb f i).Core.Lo, (cb f i).Core.Hi, (cb f i).Earth.Lo, (cb f i).Earth.Hi, (cb f i).Rated, ⟨hc.1, by trivial, cb_av hf hlt hi0⟩, fun vs => vs = [.int .i64 (mostC f i)], ⟨fun q => ?_, fun q => ?_⟩, ?_⟩
    · have hz : hasF f i = true := q
      have hz' : 0 ≤ (nd f i).Fuse := by simpa using q
      refine ⟨(fz f i).Name, (fz f i).Rated, List.map TFePoint.av (fz f i).Points, ⟨hz', by trivial, fz_av hf hlt hi0 hz'⟩, ?_⟩
      repeat first | refine And.intro rfl ?_ | refine And.intro trivial ?_
      rw [mostC, if_pos hz]
    · have hz : hasF f i = false := q
      repeat first | refine And.intro rfl ?_ | refine And.intro trivial ?_
      rw [mostC, if_neg (by rw [hz]; simp)]
    · rintro _ ⟨⟩
      -- loads
      refine ⟨fun m vs => ∃ p : Nat, p ≤ 3 ∧ m = 3 - p ∧ vs = [.int .i64 p, .slc 3 ((B ++ loadL f i p).map TFeFault.av)], ⟨_, ⟨rfl, rfl⟩, _, 0, by omega, rfl, by simp [loadL]⟩, ?_⟩
      rintro m n es ⟨p, hp, rfl, hv⟩
      cases hv
      refine ⟨fun g3 => ?_, fun g3 => ?_⟩
      · have hp3 : p < 3 := by simp at g3; omega
        have hwp : IntKind.i64.wrap ((p : Int) + 1) = ((p + 1 : Nat) : Int) := wrapN (by omega)
        have hdl := loadL_len (f := f) (i := i) (p := p)
        obtain ⟨a1, a2⟩ := app_ok (L := B ++ loadL f i p) (by rw [List.length_append]; omega) 160 i p
        rw [cells44] at a2
        have add : loadB f i p = true → ∃ es, (es.length = ((B ++ loadL f i p).map TFeFault.av).length + 1 ∧ List.flatMap AV.cells es = List.flatMap AV.cells ((B ++ loadL f i p).map TFeFault.av) ++ [.int .i64 160, .int .i64 i, .int .i64 p]) ∧ ∃ m', m' < 3 - p ∧ ∃ q : Nat, q ≤ 3 ∧ m' = 3 - q ∧ [AV.int .i64 (IntKind.i64.wrap ((p : Int) + 1)), .slc 3 es] = [.int .i64 q, .slc 3 ((B ++ loadL f i q).map TFeFault.av)] := fun hb =>
          ⟨_, app_next _ _ _ _, _, (by omega : 3 - (p + 1) < 3 - p), p + 1, by omega, rfl, by rw [hwp, loadL, if_pos hb, List.append_assoc]⟩
        have keep : loadB f i p = false → ∃ es : List AV, (es.length = ((B ++ loadL f i p).map TFeFault.av).length ∧ List.flatMap AV.cells es = List.flatMap AV.cells ((B ++ loadL f i p).map TFeFault.av)) ∧ ∃ m', m' < 3 - p ∧ ∃ q : Nat, q ≤ 3 ∧ m' = 3 - q ∧ [AV.int .i64 (IntKind.i64.wrap ((p : Int) + 1)), .slc 3 es] = [.int .i64 q, .slc 3 ((B ++ loadL f i q).map TFeFault.av)] := fun hb =>
          ⟨_, ⟨rfl, rfl⟩, _, (by omega : 3 - (p + 1) < 3 - p), p + 1, by omega, rfl, by rw [hwp, loadL, if_neg (by rw [hb]; simp), List.append_nil]⟩
        have q2 : p = 2 → hiP f i p = (curE f TFeNode.Loads2 i).Hi := fun h => by subst h; rfl
        have q1 : p = 1 → hiP f i p = (curE f TFeNode.Loads1 i).Hi := fun h => by subst h; rfl
        have q0 : p = 0 → hiP f i p = (curE f TFeNode.Loads0 i).Hi := fun h => by subst h; rfl
        refine ⟨_, _, _, _, _, _, c71 hf i, ⟨by omega, by omega⟩, fun e2 => ?_, fun e1 => ?_, fun e0 => ?_, by trivial⟩
        · have hq := q2 (by omega)
          refine ⟨fun l1 => ⟨a1, a2, ?_⟩, fun l1 => ?_⟩
          · repeat first | refine And.intro rfl ?_ | refine And.intro trivial ?_
            exact add (by rw [← load_most, hq, l1])
          · repeat first | refine And.intro rfl ?_ | refine And.intro trivial ?_
            exact keep (by rw [← load_most, hq, l1])
        · have hq := q1 (by omega)
          refine ⟨fun l1 => ⟨a1, a2, ?_⟩, fun l1 => ?_⟩
          · repeat first | refine And.intro rfl ?_ | refine And.intro trivial ?_
            exact add (by rw [← load_most, hq, l1])
          · repeat first | refine And.intro rfl ?_ | refine And.intro trivial ?_
            exact keep (by rw [← load_most, hq, l1])
        · have hq := q0 (by omega)
          refine ⟨fun l1 => ⟨a1, a2, ?_⟩, fun l1 => ?_⟩
          · repeat first | refine And.intro rfl ?_ | refine And.intro trivial ?_
            exact add (by rw [← load_most, hq, l1])
          · repeat first | refine And.intro rfl ?_ | refine And.intro trivial ?_
            exact keep (by rw [← load_most, hq, l1])
      · obtain rfl : p = 3 := by simp at g3; omega
        have hld := loadL_len (f := f) (i := i) (p := 3)
        have hD : (B ++ loadL f i 3).length ≤ 3700 := by rw [List.length_append]; omega
        generalize B ++ loadL f i 3 = D at hD hnext ⊢
        -- drops
        refine ⟨fun m vs => ∃ p : Nat, p ≤ 3 ∧ m = 3 - p ∧ vs = [.int .i64 p, .slc 3 ((D ++ dropL f i p).map TFeFault.av)], ⟨_, ⟨rfl, rfl⟩, _, 0, by omega, rfl, by simp [dropL]⟩, ?_⟩
        rintro m n es ⟨p, hp, rfl, hv⟩
        cases hv
        refine ⟨fun g4 => ?_, fun g4 => ?_⟩
        · have hp3 : p < 3 := by simp at g4; omega
          have hwp : IntKind.i64.wrap ((p : Int) + 1) = ((p + 1 : Nat) : Int) := wrapN (by omega)
          have hdl := dropL_len (f := f) (i := i) (p := p)
          refine ⟨_, c64 hf i hlt p (by omega), fun d1 => ?_, fun d1 => ?_⟩
          · obtain ⟨a1, a2⟩ := app_ok (L := D ++ dropL f i p) (by rw [List.length_append]; omega) 161 i p
            rw [cells44] at a2
            refine ⟨a1, a2, ?_⟩
            repeat first | refine And.intro rfl ?_ | refine And.intro trivial ?_
            refine ⟨_, app_next _ _ _ _, _, (by omega : 3 - (p + 1) < 3 - p), p + 1, by omega, rfl, ?_⟩
            rw [hwp, dropL, if_pos d1, List.append_assoc]
          · repeat first | refine And.intro rfl ?_ | refine And.intro trivial ?_
            refine ⟨_, ⟨rfl, rfl⟩, _, (by omega : 3 - (p + 1) < 3 - p), p + 1, by omega, rfl, ?_⟩
            rw [hwp, dropL, if_neg (by rw [d1]; simp), List.append_nil]
        · obtain rfl : p = 3 := by simp at g4; omega
          have hdl := dropL_len (f := f) (i := i) (p := 3)
          have hE : (D ++ dropL f i 3).length ≤ 3800 := by rw [List.length_append]; omega
          generalize D ++ dropL f i 3 = E at hE hnext ⊢
          refine ⟨_, c72 hf i hlt, fun o1 => ?_, fun o1 => ?_⟩
          · have hpl : protL f i = [⟨164, i, -1⟩] := by
              unfold protL; rw [guards_gn]
              cases hg : gn f i with
              | nil => rfl
              | cons a r => exfalso; unfold ownS at o1; rw [hg] at o1; simp at o1; omega
            obtain ⟨a1, a2⟩ := app_ok (L := E) (by omega) 164 i (-1)
            rw [cells44] at a2
            refine ⟨a1, a2, ?_⟩
            repeat first | refine And.intro rfl ?_ | refine And.intro trivial ?_
            refine ⟨C.map TFeFault.av, ?_, goal _ rfl⟩
            rw [hnext, hpl]; exact app_next _ _ _ _
          · obtain ⟨a, r, hg⟩ : ∃ a r, gn f i = a :: r := by
              cases hg : gn f i with
              | nil => exfalso; unfold ownS at o1; rw [hg] at o1; simp at o1
              | cons a r => exact ⟨a, r, rfl⟩
            have hpl : protL f i = earthL f i (guardS f a) (r.map (guardS f)) false ++ earthL f i (guardS f a) (r.map (guardS f)) true := by
              unfold protL; rw [guards_gn, hg]; rfl
            have cF := c73 hf i hlt a r hg false
            have cT := c73 hf i hlt a r hg true
            rw [hpl] at hnext
            have hlc : C.length = E.length + (earthL f i (guardS f a) (r.map (guardS f)) false).length + (earthL f i (guardS f a) (r.map (guardS f)) true).length := by
              rw [hnext]; simp only [List.length_append]; omega
            generalize earthL f i (guardS f a) (r.map (guardS f)) false = X at cF hnext hlc
            generalize earthL f i (guardS f a) (r.map (guardS f)) true = Y at cT hnext hlc
            obtain ⟨x1, x2, x3, _⟩ := flatF X
            obtain ⟨y1, y2, y3, _⟩ := flatF Y
            obtain ⟨e1, e2, e3, _⟩ := flatF E
            refine ⟨_, cF, x1, ⟨by rw [e2, List.length_map], by simp only [List.length_map]; omega, x3, e3⟩, _, cT, y1, ⟨by rw [List.length_append, e2, x2]; simp only [List.length_map]; omega, by simp only [List.length_map]; omega, y3, ?_⟩, ?_⟩
            · unfold ones at x3 e3 ⊢
              rw [List.all_append, e3, x3]; rfl
            · repeat first | refine And.intro rfl ?_ | refine And.intro trivial ?_
              refine ⟨C.map TFeFault.av, ⟨by simp only [List.length_map]; omega, ?_⟩, goal _ rfl⟩
              rw [hnext]; simp only [List.map_append, List.flatMap_append, List.append_assoc]
  · obtain rfl : i = f.Nodes.length := by simp at g; omega
    obtain ⟨f1, f2, f3, f4⟩ := flatF (judgeL f f.Nodes.length)
    refine ⟨by rw [f2, List.length_map]; omega, ?_, by trivial⟩
    rw [agg44]; simp only [chunks, if_true, List.drop_zero, List.length_map]; rw [f4])
end Go.Proofs.Ytbdbnpnichkcjaa

/- Contracts: one's own protection (the program's Own). -/
import Derived.Test.YtbdbnpnichkcjaaX6
namespace Go.Proofs.Ytbdbnpnichkcjaa
open Go.RowKit
def gn (f : TFeFeeder) (node : Nat) : List Nat := (upL f node).filter (hasF f)
theorem guards_gn {f : TFeFeeder} {node : Nat} : guardsL f (upL f node) = (gn f node).map (guardS f) := rfl
theorem gn_mem {f : TFeFeeder} (hf : OK f) {node i : Nat} (h : node < f.Nodes.length) (hi : i ∈ gn f node) : i ≠ 0 ∧ i < f.Nodes.length ∧ 0 ≤ (nd f i).Fuse := by
  obtain ⟨h1, h2⟩ := List.mem_filter.1 hi
  have := upL_mem hf h h1
  exact ⟨this.1, this.2.1, by simpa [hasF] using h2⟩
def ownS (f : TFeFeeder) (node : Nat) : Int := match gn f node with
  | [] => -1
  | g :: _ => (g : Nat)
def ownR (f : TFeFeeder) (node : Int) : Int × Int := if askedS f node ≠ 0 then (0, askedS f node) else (ownS f node.toNat, 0)
def R29 (f : TFeFeeder) (node : Int) (S : SpecF) (_Fr : FuncId → List AV → Nat → List AV → Prop) (_Sq : FuncId → List AV → List (List AV) → List (List AV) → Prop) (Q : AV → List (List AV) → Prop) : Prop :=
  ∃ n0, S (61 : Nat) [f.av, AV.int .i64 node] [] (AV.int .i64 n0) [] ∧ ((n0 != (0 : Int)) = true → Q (AV.tup [AV.int .i64 (0 : Int), AV.int .i64 n0]) []) ∧ ((n0 != (0 : Int)) = false → ∃ es4, S (78 : Nat) [f.av, AV.int .i64 node] [] (AV.slc (3 : Nat) es4) [] ∧ ∃ (I6 : Nat → List AV → Prop), (∃ m8, I6 m8 [AV.int .i64 (0 : Int)]) ∧ ∀ (m8 : Nat) (n9 : Int), I6 m8 [AV.int .i64 n9] → (decide (n9 < (↑es4.length : Int)) = true → ∃ n13 s14 n15 es16 n17, ((0 : Int) ≤ n9 ∧ (5 : Nat) = (5 : Nat) ∧ es4[n9.toNat]? = some (AV.agg [AV.int .i64 n13, AV.str s14, AV.int .i64 n15, AV.slc (3 : Nat) es16, AV.int .i64 n17])) ∧ Q (AV.tup [AV.int .i64 n13, AV.int .i64 (0 : Int)]) []) ∧ (decide (n9 < (↑es4.length : Int)) = false → Q (AV.tup [AV.int .i64 (-1 : Int), AV.int .i64 (0 : Int)]) []))
theorem r29 (f : TFeFeeder) (node : Int) (S : SpecF) (Fr : FuncId → List AV → Nat → List AV → Prop) (Sq : FuncId → List AV → List (List AV) → List (List AV) → Prop) (Q : AV → List (List AV) → Prop) : awpF Try.prog (mkS Try.prog S Fr Sq ⟨[], [], [], [], []⟩ 0) 0 ⟨[0, 1, 2, 4, 5, 6, 8, 13, 17, 18, 19, 20], [⟨5, [(19, .int .i64 0)], [], [], [], []⟩], [], []⟩ Try.f29 [f.av, .int .i64 node] [] Q = R29 f node S Fr Sq Q := by kernel_rfl
theorem s29 (f : TFeFeeder) (node : Int) (v : AV) (O : List (List AV)) (h : R29 f node (SpecOf Try.prog) (FreshOf Try.prog) (SeqOf Try.prog) (fun r O' => r = v ∧ O' = O)) : SpecOf Try.prog 29 [f.av, .int .i64 node] [] v O :=
  spec_by (boxes := []) mixed (by exact trivial) Try.func29 Try.call29 rfl rfl rfl (Nat.le_of_ble_eq_true rfl) (r29 f node (SpecOf Try.prog) (FreshOf Try.prog) (SeqOf Try.prog) _) h
theorem c29 (f : TFeFeeder) (hn : NOK f) (node : Int) : Sp 29 [f.av, .int .i64 node] [] (.tup [.int .i64 (ownR f node).1, .int .i64 (ownR f node).2]) [] := s29 f node _ _ (by
  unfold R29
  refine ⟨_, c61 f hn node, fun h => ⟨?_, rfl⟩, fun h => ?_⟩
  · have h : askedS f node ≠ 0 := by simpa using h
    rw [ownR, if_pos h]
  · have h : askedS f node = 0 := by simpa using h
    obtain ⟨hf, k, rfl, hk⟩ := asked_ok h
    have hR : ownR f k = (ownS f k, 0) := by rw [ownR, if_neg (by omega)]; rfl
    rw [hR]
    refine ⟨_, c78 hf k hk, ?_⟩
    rw [guards_gn]
    unfold ownS
    simp only [List.length_map]
    cases hg : gn f k with
    | nil =>
      refine ⟨fun m vs => vs = [.int .i64 0], ⟨0, rfl⟩, ?_⟩
      rintro m n hv
      cases hv
      exact ⟨fun h => by simp at h, fun _ => ⟨rfl, trivial⟩⟩
    | cons g r =>
      refine ⟨fun m vs => vs = [.int .i64 0], ⟨0, rfl⟩, ?_⟩
      rintro m n hv
      cases hv
      refine ⟨fun h => ⟨(guardS f g).node, (guardS f g).fuse.Name, (guardS f g).fuse.Rated, List.map TFePoint.av (guardS f g).fuse.Points, (guardS f g).besides, ⟨by omega, trivial, rfl⟩, rfl, trivial⟩, fun h => by first | (simp at h; done) | (simp at h; omega)⟩)
end Go.Proofs.Ytbdbnpnichkcjaa

/- The contract of Judge. The contract of Judge, proved. -/
import Derived.Test.YtbdbnpnichkcjaaX6
namespace Go.Proofs.Ytbdbnpnichkcjaa
open Go.RowKit
def hiP (f : TFeFeeder) (i : Nat) (p : Int) : Int := (phE (curE f TFeNode.Loads0 i) (curE f TFeNode.Loads1 i) (curE f TFeNode.Loads2 i) p).Hi
def loadB (f : TFeFeeder) (i : Nat) (p : Int) : Bool := decide (hiP f i p > (cb f i).Rated) || (hasF f i && decide (hiP f i p > (fz f i).Rated))
def loadL (f : TFeFeeder) (i : Nat) : Nat → List TFeFault
  | 0 => []
  | p + 1 => loadL f i p ++ if loadB f i p then [⟨160, i, p⟩] else []
def dropL (f : TFeFeeder) (i : Nat) : Nat → List TFeFault
  | 0 => []
  | p + 1 => dropL f i p ++ if decide (dropS f i p > f.Drop) then [⟨161, i, p⟩] else []
def othL (i : Nat) (g : TGuard) (b : TEncl) (l : List TGuard) : List TFeFault := (l.filter (fun o => yieldsB g o b)).map fun o => ⟨163, i, o.node⟩
def slowB (f : TFeFeeder) (g : TGuard) (b : TEncl) : Bool := !(meltS g.fuse b.Lo).2 || decide ((meltS g.fuse b.Lo).1.Hi > f.Limit)
def slowL (f : TFeFeeder) (i : Nat) (g : TGuard) (b : TEncl) : List TFeFault := if slowB f g b then [⟨162, i, g.node⟩] else []
def earthL (f : TFeFeeder) (i : Nat) (g : TGuard) (r : List TGuard) (e : Bool) : List TFeFault := slowL f i g (faultS f i e) ++ othL i g (faultS f i e) r.reverse
def earthsL (f : TFeFeeder) (i : Nat) (g : TGuard) (r : List TGuard) : Nat → List TFeFault
  | 0 => []
  | 1 => earthL f i g r false
  | _ => earthL f i g r false ++ earthL f i g r true
def protL (f : TFeFeeder) (i : Nat) : List TFeFault :=
  match guardsL f (upL f i) with
  | [] => [⟨164, i, -1⟩]
  | g :: r => earthsL f i g r 2
def lookL (f : TFeFeeder) (i : Nat) : Nat → List TFeFault
  | 0 => []
  | 1 => loadL f i 3
  | 2 => loadL f i 3 ++ dropL f i 3
  | _ => loadL f i 3 ++ dropL f i 3 ++ protL f i
def lookZ (f : TFeFeeder) (i k : Nat) : List TFeFault := if i = 0 then [] else lookL f i k
def judgeL (f : TFeFeeder) : Nat → List TFeFault
  | 0 => []
  | i + 1 => judgeL f i ++ lookZ f i 3
def judgeR (f : TFeFeeder) : List TFeFault × Int := if (checkF f).2.2 ≠ 0 then ([], (checkF f).2.2) else (judgeL f f.Nodes.length, 0)
theorem loadL_len {f : TFeFeeder} {i p : Nat} : (loadL f i p).length ≤ p := by
  induction p with
  | zero => exact Nat.le_refl _
  | succ p ih => simp only [loadL, List.length_append]; split <;> simp <;> omega
theorem dropL_len {f : TFeFeeder} {i p : Nat} : (dropL f i p).length ≤ p := by
  induction p with
  | zero => exact Nat.le_refl _
  | succ p ih => simp only [dropL, List.length_append]; split <;> simp <;> omega
theorem othL_len {i : Nat} {g : TGuard} {b : TEncl} {l : List TGuard} : (othL i g b l).length ≤ l.length := by
  unfold othL; rw [List.length_map]; exact List.length_filter_le _ _
theorem slowL_len {f : TFeFeeder} {i : Nat} {g : TGuard} {b : TEncl} : (slowL f i g b).length ≤ 1 := by unfold slowL; split <;> simp
theorem earthL_len {f : TFeFeeder} {i : Nat} {g : TGuard} {r : List TGuard} {e : Bool} : (earthL f i g r e).length ≤ 1 + r.length := by
  have h1 := slowL_len (f := f) (i := i) (g := g) (b := faultS f i e)
  have h2 := othL_len (i := i) (g := g) (b := faultS f i e) (l := r.reverse)
  rw [List.length_reverse] at h2
  unfold earthL; rw [List.length_append]; omega
theorem earthsL_len {f : TFeFeeder} {i : Nat} {g : TGuard} {r : List TGuard} : ∀ k, (earthsL f i g r k).length ≤ 2 + 2 * r.length := by
  intro k
  have h1 := earthL_len (f := f) (i := i) (g := g) (r := r) (e := false)
  have h2 := earthL_len (f := f) (i := i) (g := g) (r := r) (e := true)
  match k with
  | 0 => simp [earthsL]
  | 1 => simp only [earthsL]; omega
  | k + 2 => simp only [earthsL, List.length_append]; omega
theorem protL_len {f : TFeFeeder} (hf : OK f) {i : Nat} (h : i < f.Nodes.length) : (protL f i).length ≤ 84 := by
  have hl : (guardsL f (upL f i)).length ≤ 40 := Nat.le_trans guards_len (upL_len40 hf h)
  unfold protL
  split
  · simp
  · rename_i g r he
    rw [he, List.length_cons] at hl
    have := earthsL_len (f := f) (i := i) (g := g) (r := r) 2
    omega
theorem lookZ_len {f : TFeFeeder} (hf : OK f) {i : Nat} (h : i < f.Nodes.length) : ∀ k, (lookZ f i k).length ≤ 90 := by
  intro k
  have h1 := loadL_len (f := f) (i := i) (p := 3)
  have h2 := dropL_len (f := f) (i := i) (p := 3)
  have h3 := protL_len hf h
  unfold lookZ
  split
  · simp
  · match k with
    | 0 => simp [lookL]
    | 1 => simp only [lookL]; omega
    | 2 => simp only [lookL, List.length_append]; omega
    | k + 3 => simp only [lookL, List.length_append]; omega
theorem judgeL_len {f : TFeFeeder} (hf : OK f) : ∀ i, i ≤ f.Nodes.length → (judgeL f i).length ≤ 90 * i := by
  intro i
  induction i with
  | zero => intro _; exact Nat.le_refl _
  | succ i ih =>
    intro h
    have h1 := ih (by omega)
    have h2 := lookZ_len hf (i := i) (by omega) 3
    simp only [judgeL, List.length_append]; omega
theorem flatF (s : List TFeFault) : elemsOf 3 (s.map TFeFault.av) ∧ ((s.map TFeFault.av).flatMap AV.cells).length = s.length * 3 ∧ ones ((s.map TFeFault.av).flatMap AV.cells) = true ∧ chunkA 3 s.length ((s.map TFeFault.av).flatMap AV.cells) = s.map TFeFault.av :=
  flat_map (f := TFeFault.av) (g := TFeFault.cs) (k := 3) (fun _ => rfl) (fun _ => rfl) (fun _ => rfl) s
theorem cells44 : Try.prog.cellsOf 44 = 3 := by kernel_rfl
theorem agg44 : isAggT Try.prog 44 = true := by kernel_rfl
theorem app_ok {L : List TFeFault} (h : L.length ≤ 1000000) (e i o : Int) : elemsOf 3 [.agg [.int .i64 e, .int .i64 i, .int .i64 o]] ∧ ((List.flatMap AV.cells (L.map TFeFault.av)).length = (L.map TFeFault.av).length * Try.prog.cellsOf 44 ∧
    ((L.map TFeFault.av).length + 1 + 512) * 121 ≤ 1125899906842624 ∧ ones [.int .i64 e, .int .i64 i, .int .i64 o] = true ∧ ones (List.flatMap AV.cells (L.map TFeFault.av)) = true) := by
  refine ⟨fun v hv => ?_, ?_, ?_, rfl, (flatF L).2.2.1⟩
  · rw [List.mem_singleton] at hv; rw [hv]; rfl
  · rw [cells44, List.length_map]; exact (flatF L).2.1
  · rw [List.length_map]; omega
theorem app_next (L : List TFeFault) (e i o : Int) : ((L ++ [(⟨e, i, o⟩ : TFeFault)]).map TFeFault.av).length = (L.map TFeFault.av).length + 1 ∧
    List.flatMap AV.cells ((L ++ [(⟨e, i, o⟩ : TFeFault)]).map TFeFault.av) = List.flatMap AV.cells (L.map TFeFault.av) ++ [.int .i64 e, .int .i64 i, .int .i64 o] := by
  refine ⟨by simp, ?_⟩
  rw [List.map_append, List.flatMap_append]; rfl
theorem fault_bound {f : TFeFeeder} (hf : OK f) {i : Nat} (h : i < f.Nodes.length) (e : Bool) : CB (faultS f i e) := by
  have t1 := take_bound (g := loG f e) hf h (by decide) (fun j hj h0 => lo_bound hf e hj h0) (upL f i).length
  have t2 := take_bound (g := hiG f e) hf h (by decide) (fun j hj h0 => hi_bound hf e hj h0) (upL f i).length
  rw [List.take_length] at t1 t2
  have hs := hf.source; have hv := hf.volts
  have b1 : 1 ≤ (rE f (upL f i) e).Lo ∧ (rE f (upL f i) e).Lo ≤ 500000000000 := by simp only [rE]; omega
  have b2 : 1 ≤ (rE f (upL f i) e).Hi ∧ (rE f (upL f i) e).Hi ≤ 500000000000 := by simp only [rE]; omega
  unfold CB faultS
  have g1 : 0 ≤ 1000000 * f.Volts.Lo / (rE f (upL f i) e).Hi := Int.ediv_nonneg (by omega) (by omega)
  have g2 : (1000000 * f.Volts.Hi + (rE f (upL f i) e).Lo - 1) / (rE f (upL f i) e).Lo ≤ 1000000 * f.Volts.Hi + (rE f (upL f i) e).Lo - 1 := Int.ediv_le_self _ (by omega)
  dsimp only
  omega
/-- A call of 'look': a step of the list. -/
theorem take_filter {α : Type} {q : α → Bool} {l : List α} {i : Nat} {x : α} (h : l[i]? = some x) : (l.take (i + 1)).filter q = (l.take i).filter q ++ if q x then [x] else [] := by
  rw [List.take_add_one, h, List.filter_append]
  congr 1
  simp only [Option.toList, List.filter_cons, List.filter_nil]
theorem othL_take {i : Nat} {g : TGuard} {b : TEncl} {l : List TGuard} {k : Nat} {o : TGuard} (h : l[k]? = some o) : othL i g b (l.take (k + 1)) = othL i g b (l.take k) ++ if yieldsB g o b then [⟨163, i, o.node⟩] else [] := by
  unfold othL; rw [take_filter h, List.map_append]
  congr 1
  split <;> rfl
def R22 (f : TFeFeeder) (S : SpecF) (_Fr : FuncId → List AV → Nat → List AV → Prop) (Sq : FuncId → List AV → List (List AV) → List (List AV) → Prop) (Q : AV → List (List AV) → Prop) : Prop :=
  ∃ n0 n1 n2, S (15 : Nat) [f.av] [] (AV.tup [AV.int .i64 n0, AV.int .i64 n1, AV.int .i64 n2]) [] ∧ ((n2 != (0 : Int)) = true → Q (AV.tup [AV.slc (3 : Nat) [], AV.int .i64 n2]) []) ∧ ((n2 != (0 : Int)) = false → ∃ (I6 : Nat → List AV → Prop), (∃ m8, I6 m8 [AV.int .i64 (0 : Int), AV.slc (3 : Nat) []]) ∧ ∀ (m8 : Nat) (n9 : Int) (es10 : List AV), I6 m8 [AV.int .i64 n9, AV.slc (3 : Nat) es10] → (decide (n9 < (↑(List.map TFeNode.av f.Nodes).length : Int)) = true → ∃ (I14 : Nat → List AV → Prop), (∃ es16, (es16.length = es10.length ∧ List.flatMap AV.cells es16 = List.flatMap AV.cells es10) ∧ ∃ m18, I14 m18 [AV.int .i64 (0 : Int), AV.slc (3 : Nat) es16]) ∧ ∀ (m16 : Nat) (n17 : Int) (es18 : List AV), I14 m16 [AV.int .i64 n17, AV.slc (3 : Nat) es18] → (decide (n17 < (3 : Int)) = true → ((0 : Int) ≤ n17 ∧ n17 < (3 : Int)) ∧ (n17 = (2 : Int) → (decide (n9 > (0 : Int)) = true → ∃ es27, S (78 : Nat) [f.av, AV.int .i64 n9] [] (AV.slc (3 : Nat) es27) [] ∧ (((↑es27.length : Int) == (0 : Int)) = true → elemsOf (3 : Nat) [AV.agg [AV.int .i64 (164 : Int), AV.int .i64 n9, AV.int .i64 (-1 : Int)]] ∧ ((List.flatMap AV.cells es18).length = es18.length * Try.prog.cellsOf (44 : Nat) ∧ (es18.length + (1 : Nat) + (512 : Nat)) * (121 : Nat) ≤ (1125899906842624 : Nat) ∧ ones [AV.int .i64 (164 : Int), AV.int .i64 n9, AV.int .i64 (-1 : Int)] = true ∧ ones (List.flatMap AV.cells es18) = true) ∧ f.cs = f.cs ∧ [AV.slc (3 : Nat) (List.map TFeCable.av f.Cables), AV.slc (3 : Nat) (List.map TFeFuse.av f.Fuses), AV.slc (3 : Nat) (List.map TFeNode.av f.Nodes), AV.int .i64 f.Volts.Lo, AV.int .i64 f.Volts.Hi, AV.int .i64 f.Source.Lo, AV.int .i64 f.Source.Hi, AV.int .i64 f.Drop, AV.int .i64 f.Limit, AV.undef] = [AV.slc (3 : Nat) (List.map TFeCable.av f.Cables), AV.slc (3 : Nat) (List.map TFeFuse.av f.Fuses), AV.slc (3 : Nat) (List.map TFeNode.av f.Nodes), AV.int .i64 f.Volts.Lo, AV.int .i64 f.Volts.Hi, AV.int .i64 f.Source.Lo, AV.int .i64 f.Source.Hi, AV.int .i64 f.Drop, AV.int .i64 f.Limit, AV.undef] ∧ ∃ es35, (es35.length = es18.length + (1 : Nat) ∧ List.flatMap AV.cells es35 = List.flatMap AV.cells es18 ++ [AV.int .i64 (164 : Int), AV.int .i64 n9, AV.int .i64 (-1 : Int)]) ∧ ∃ k37, k37 < m16 ∧ I14 k37 [AV.int .i64 (IntKind.i64.wrap (n17 + (1 : Int))), AV.slc (3 : Nat) es35]) ∧ (((↑es27.length : Int) == (0 : Int)) = false → ∃ (I31 : Nat → List AV → Prop), (∃ es33, (es33.length = es18.length ∧ List.flatMap AV.cells es33 = List.flatMap AV.cells es18) ∧ ∃ m35, I31 m35 [AV.int .i64 (0 : Int), AV.slc (3 : Nat) es33]) ∧ ∀ (m33 : Nat) (n34 : Int) (es35 : List AV), I31 m33 [AV.int .i64 n34, AV.slc (3 : Nat) es35] → (decide (n34 < (2 : Int)) = true → ∃ (J39 : List AV → Prop), (((0 : Int) ≤ n34 ∧ n34 < (2 : Int)) ∧ (n34 = (1 : Int) → f.cs = f.cs ∧ [AV.slc (3 : Nat) (List.map TFeCable.av f.Cables), AV.slc (3 : Nat) (List.map TFeFuse.av f.Fuses), AV.slc (3 : Nat) (List.map TFeNode.av f.Nodes), AV.int .i64 f.Volts.Lo, AV.int .i64 f.Volts.Hi, AV.int .i64 f.Source.Lo, AV.int .i64 f.Source.Hi, AV.int .i64 f.Drop, AV.int .i64 f.Limit, AV.aslc ((58 : Nat) + ((81 : Nat) + nat_lit 0, nat_lit 44).fst) (0 : Nat) es35.length (Try.prog.cellsOf (44 : Nat)) (isAggT Try.prog (44 : Nat))] = [AV.slc (3 : Nat) (List.map TFeCable.av f.Cables), AV.slc (3 : Nat) (List.map TFeFuse.av f.Fuses), AV.slc (3 : Nat) (List.map TFeNode.av f.Nodes), AV.int .i64 f.Volts.Lo, AV.int .i64 f.Volts.Hi, AV.int .i64 f.Source.Lo, AV.int .i64 f.Source.Hi, AV.int .i64 f.Drop, AV.int .i64 f.Limit, AV.aslc ((58 : Nat) + ((81 : Nat) + nat_lit 0, nat_lit 44).fst) (0 : Nat) es35.length (Try.prog.cellsOf (44 : Nat)) (isAggT Try.prog (44 : Nat))] ∧ [AV.ref (22 : Nat) (0 : Nat)] = [AV.ref (22 : Nat) (0 : Nat)] ∧ [AV.int .i64 n9] = [AV.int .i64 n9] ∧ [AV.slc (3 : Nat) es27] = [AV.slc (3 : Nat) es27] ∧ List.flatMap AV.cells es35 = List.flatMap AV.cells es35 ∧ J39 [AV.bool true]) ∧ (n34 = (0 : Int) → f.cs = f.cs ∧ [AV.slc (3 : Nat) (List.map TFeCable.av f.Cables), AV.slc (3 : Nat) (List.map TFeFuse.av f.Fuses), AV.slc (3 : Nat) (List.map TFeNode.av f.Nodes), AV.int .i64 f.Volts.Lo, AV.int .i64 f.Volts.Hi, AV.int .i64 f.Source.Lo, AV.int .i64 f.Source.Hi, AV.int .i64 f.Drop, AV.int .i64 f.Limit, AV.aslc ((58 : Nat) + ((81 : Nat) + nat_lit 0, nat_lit 44).fst) (0 : Nat) es35.length (Try.prog.cellsOf (44 : Nat)) (isAggT Try.prog (44 : Nat))] = [AV.slc (3 : Nat) (List.map TFeCable.av f.Cables), AV.slc (3 : Nat) (List.map TFeFuse.av f.Fuses), AV.slc (3 : Nat) (List.map TFeNode.av f.Nodes), AV.int .i64 f.Volts.Lo, AV.int .i64 f.Volts.Hi, AV.int .i64 f.Source.Lo, AV.int .i64 f.Source.Hi, AV.int .i64 f.Drop, AV.int .i64 f.Limit, AV.aslc ((58 : Nat) + ((81 : Nat) + nat_lit 0, nat_lit 44).fst) (0 : Nat) es35.length (Try.prog.cellsOf (44 : Nat)) (isAggT Try.prog (44 : Nat))] ∧ [AV.ref (22 : Nat) (0 : Nat)] = [AV.ref (22 : Nat) (0 : Nat)] ∧ [AV.int .i64 n9] = [AV.int .i64 n9] ∧ [AV.slc (3 : Nat) es27] = [AV.slc (3 : Nat) es27] ∧ List.flatMap AV.cells es35 = List.flatMap AV.cells es35 ∧ J39 [AV.bool false]) ∧ True) ∧ ∀ (b41 : Bool), J39 [AV.bool b41] → ∃ n43 n44, S (66 : Nat) [f.av, AV.int .i64 n9, AV.bool b41] [] (AV.agg [AV.int .i64 n43, AV.int .i64 n44]) [] ∧ ∃ n46 s47 n48 es49 n50, ((0 : Int) ≤ (0 : Int) ∧ (5 : Nat) = (5 : Nat) ∧ es27[(0 : Nat)]? = some (AV.agg [AV.int .i64 n46, AV.str s47, AV.int .i64 n48, AV.slc (3 : Nat) es49, AV.int .i64 n50])) ∧ ∃ n52 n53 b54, S (76 : Nat) [AV.agg [AV.str s47, AV.int .i64 n48, AV.slc (3 : Nat) es49], AV.int .i64 n43] [] (AV.tup [AV.agg [AV.int .i64 n52, AV.int .i64 n53], AV.bool b54]) [] ∧ ∃ (J56 : List AV → Prop), (((!b54) = true → ∃ n60 s61 n62 es63 n64, ((0 : Int) ≤ (0 : Int) ∧ (5 : Nat) = (5 : Nat) ∧ es27[(0 : Nat)]? = some (AV.agg [AV.int .i64 n60, AV.str s61, AV.int .i64 n62, AV.slc (3 : Nat) es63, AV.int .i64 n64])) ∧ elemsOf (3 : Nat) [AV.agg [AV.int .i64 (162 : Int), AV.int .i64 n9, AV.int .i64 n60]] ∧ ((List.flatMap AV.cells es35).length = es35.length * Try.prog.cellsOf (44 : Nat) ∧ (es35.length + (1 : Nat) + (512 : Nat)) * (121 : Nat) ≤ (1125899906842624 : Nat) ∧ ones [AV.int .i64 (162 : Int), AV.int .i64 n9, AV.int .i64 n60] = true ∧ ones (List.flatMap AV.cells es35) = true) ∧ f.cs = f.cs ∧ [AV.slc (3 : Nat) (List.map TFeCable.av f.Cables), AV.slc (3 : Nat) (List.map TFeFuse.av f.Fuses), AV.slc (3 : Nat) (List.map TFeNode.av f.Nodes), AV.int .i64 f.Volts.Lo, AV.int .i64 f.Volts.Hi, AV.int .i64 f.Source.Lo, AV.int .i64 f.Source.Hi, AV.int .i64 f.Drop, AV.int .i64 f.Limit, AV.undef] = [AV.slc (3 : Nat) (List.map TFeCable.av f.Cables), AV.slc (3 : Nat) (List.map TFeFuse.av f.Fuses), AV.slc (3 : Nat) (List.map TFeNode.av f.Nodes), AV.int .i64 f.Volts.Lo, AV.int .i64 f.Volts.Hi, AV.int .i64 f.Source.Lo, AV.int .i64 f.Source.Hi, AV.int .i64 f.Drop, AV.int .i64 f.Limit, AV.undef] ∧ [AV.ref (22 : Nat) (0 : Nat)] = [AV.ref (22 : Nat) (0 : Nat)] ∧ [AV.int .i64 n9] = [AV.int .i64 n9] ∧ [AV.slc (3 : Nat) es27] = [AV.slc (3 : Nat) es27] ∧ [AV.int .i64 n43, AV.int .i64 n44] = [AV.int .i64 n43, AV.int .i64 n44] ∧ [AV.int .i64 n52, AV.int .i64 n53] = [AV.int .i64 n52, AV.int .i64 n53] ∧ ∃ es75, (es75.length = es35.length + (1 : Nat) ∧ List.flatMap AV.cells es75 = List.flatMap AV.cells es35 ++ [AV.int .i64 (162 : Int), AV.int .i64 n9, AV.int .i64 n60]) ∧ J56 [AV.slc (3 : Nat) es75]) ∧ ((!b54) = false → ∃ n60 s61 n62 es63 n64, ((0 : Int) ≤ (0 : Int) ∧ (5 : Nat) = (5 : Nat) ∧ es27[(0 : Nat)]? = some (AV.agg [AV.int .i64 n60, AV.str s61, AV.int .i64 n62, AV.slc (3 : Nat) es63, AV.int .i64 n64])) ∧ (decide (n53 > f.Limit) = true → elemsOf (3 : Nat) [AV.agg [AV.int .i64 (162 : Int), AV.int .i64 n9, AV.int .i64 n60]] ∧ ((List.flatMap AV.cells es35).length = es35.length * Try.prog.cellsOf (44 : Nat) ∧ (es35.length + (1 : Nat) + (512 : Nat)) * (121 : Nat) ≤ (1125899906842624 : Nat) ∧ ones [AV.int .i64 (162 : Int), AV.int .i64 n9, AV.int .i64 n60] = true ∧ ones (List.flatMap AV.cells es35) = true) ∧ f.cs = f.cs ∧ [AV.slc (3 : Nat) (List.map TFeCable.av f.Cables), AV.slc (3 : Nat) (List.map TFeFuse.av f.Fuses), AV.slc (3 : Nat) (List.map TFeNode.av f.Nodes), AV.int .i64 f.Volts.Lo, AV.int .i64 f.Volts.Hi, AV.int .i64 f.Source.Lo, AV.int .i64 f.Source.Hi, AV.int .i64 f.Drop, AV.int .i64 f.Limit, AV.undef] = [AV.slc (3 : Nat) (List.map TFeCable.av f.Cables), AV.slc (3 : Nat) (List.map TFeFuse.av f.Fuses), AV.slc (3 : Nat) (List.map TFeNode.av f.Nodes), AV.int .i64 f.Volts.Lo, AV.int .i64 f.Volts.Hi, AV.int .i64 f.Source.Lo, AV.int .i64 f.Source.Hi, AV.int .i64 f.Drop, AV.int .i64 f.Limit, AV.undef] ∧ [AV.ref (22 : Nat) (0 : Nat)] = [AV.ref (22 : Nat) (0 : Nat)] ∧ [AV.int .i64 n9] = [AV.int .i64 n9] ∧ [AV.slc (3 : Nat) es27] = [AV.slc (3 : Nat) es27] ∧ [AV.int .i64 n43, AV.int .i64 n44] = [AV.int .i64 n43, AV.int .i64 n44] ∧ [AV.int .i64 n52, AV.int .i64 n53] = [AV.int .i64 n52, AV.int .i64 n53] ∧ ∃ es77, (es77.length = es35.length + (1 : Nat) ∧ List.flatMap AV.cells es77 = List.flatMap AV.cells es35 ++ [AV.int .i64 (162 : Int), AV.int .i64 n9, AV.int .i64 n60]) ∧ J56 [AV.slc (3 : Nat) es77]) ∧ (decide (n53 > f.Limit) = false → f.cs = f.cs ∧ [AV.slc (3 : Nat) (List.map TFeCable.av f.Cables), AV.slc (3 : Nat) (List.map TFeFuse.av f.Fuses), AV.slc (3 : Nat) (List.map TFeNode.av f.Nodes), AV.int .i64 f.Volts.Lo, AV.int .i64 f.Volts.Hi, AV.int .i64 f.Source.Lo, AV.int .i64 f.Source.Hi, AV.int .i64 f.Drop, AV.int .i64 f.Limit, AV.undef] = [AV.slc (3 : Nat) (List.map TFeCable.av f.Cables), AV.slc (3 : Nat) (List.map TFeFuse.av f.Fuses), AV.slc (3 : Nat) (List.map TFeNode.av f.Nodes), AV.int .i64 f.Volts.Lo, AV.int .i64 f.Volts.Hi, AV.int .i64 f.Source.Lo, AV.int .i64 f.Source.Hi, AV.int .i64 f.Drop, AV.int .i64 f.Limit, AV.undef] ∧ [AV.ref (22 : Nat) (0 : Nat)] = [AV.ref (22 : Nat) (0 : Nat)] ∧ [AV.int .i64 n9] = [AV.int .i64 n9] ∧ [AV.slc (3 : Nat) es27] = [AV.slc (3 : Nat) es27] ∧ [AV.int .i64 n43, AV.int .i64 n44] = [AV.int .i64 n43, AV.int .i64 n44] ∧ [AV.int .i64 n52, AV.int .i64 n53] = [AV.int .i64 n52, AV.int .i64 n53] ∧ ∃ es75, (es75.length = es35.length ∧ List.flatMap AV.cells es75 = List.flatMap AV.cells es35) ∧ J56 [AV.slc (3 : Nat) es75]))) ∧ ∀ (es58 : List AV), J56 [AV.slc (3 : Nat) es58] → ((0 : Int) ≤ (1 : Int) ∧ (1 : Int) ≤ (↑es27.length : Int) ∧ (↑es27.length : Int) ≤ (↑es27.length : Int) ∧ elemsOf (5 : Nat) es27) ∧ ∃ xs61, Sq (126 : Nat) [AV.ref (0 : Nat) (0 : Nat)] [[AV.slc (3 : Nat) (List.take ((↑es27.length : Int).toNat - (1 : Nat)) (List.drop (1 : Nat) es27))]] xs61 ∧ (∀ (x64 : List AV), x64 ∈ xs61 → fitL [AV.int .i64 (0 : Int), AV.agg [AV.int .i64 (0 : Int), AV.str default, AV.int .i64 (0 : Int), AV.slc (3 : Nat) [], AV.int .i64 (0 : Int)]] x64 = true ∧ AV.treeL x64 = true) ∧ ∃ (I64 : Nat → List AV → Prop), (∃ es66, (es66.length = es58.length ∧ List.flatMap AV.cells es66 = List.flatMap AV.cells es58) ∧ I64 (0 : Nat) [AV.slc (3 : Nat) es66]) ∧ (∀ (i67 : Nat) (n68 n69 : Int) (s70 : ByteArray) (n71 : Int) (es72 : List AV) (n73 : Int), xs61[i67]? = some [AV.int .i64 n68, AV.agg [AV.int .i64 n69, AV.str s70, AV.int .i64 n71, AV.slc (3 : Nat) es72, AV.int .i64 n73]] → ∀ (es75 : List AV), I64 i67 [AV.slc (3 : Nat) es75] → ∃ n77 s78 n79 es80 n81, ((0 : Int) ≤ (0 : Int) ∧ (5 : Nat) = (5 : Nat) ∧ es27[(0 : Nat)]? = some (AV.agg [AV.int .i64 n77, AV.str s78, AV.int .i64 n79, AV.slc (3 : Nat) es80, AV.int .i64 n81])) ∧ ∃ b83, S (107 : Nat) [AV.agg [AV.int .i64 n77, AV.str s78, AV.int .i64 n79, AV.slc (3 : Nat) es80, AV.int .i64 n81], AV.agg [AV.int .i64 n69, AV.str s70, AV.int .i64 n71, AV.slc (3 : Nat) es72, AV.int .i64 n73], AV.agg [AV.int .i64 n43, AV.int .i64 n44]] [] (AV.bool b83) [] ∧ (b83 = true → elemsOf (3 : Nat) [AV.agg [AV.int .i64 (163 : Int), AV.int .i64 n9, AV.int .i64 n69]] ∧ ((List.flatMap AV.cells es75).length = es75.length * Try.prog.cellsOf (44 : Nat) ∧ (es75.length + (1 : Nat) + (512 : Nat)) * (121 : Nat) ≤ (1125899906842624 : Nat) ∧ ones [AV.int .i64 (163 : Int), AV.int .i64 n9, AV.int .i64 n69] = true ∧ ones (List.flatMap AV.cells es75) = true) ∧ f.cs = f.cs ∧ [AV.slc (3 : Nat) (List.map TFeCable.av f.Cables), AV.slc (3 : Nat) (List.map TFeFuse.av f.Fuses), AV.slc (3 : Nat) (List.map TFeNode.av f.Nodes), AV.int .i64 f.Volts.Lo, AV.int .i64 f.Volts.Hi, AV.int .i64 f.Source.Lo, AV.int .i64 f.Source.Hi, AV.int .i64 f.Drop, AV.int .i64 f.Limit, AV.undef] = [AV.slc (3 : Nat) (List.map TFeCable.av f.Cables), AV.slc (3 : Nat) (List.map TFeFuse.av f.Fuses), AV.slc (3 : Nat) (List.map TFeNode.av f.Nodes), AV.int .i64 f.Volts.Lo, AV.int .i64 f.Volts.Hi, AV.int .i64 f.Source.Lo, AV.int .i64 f.Source.Hi, AV.int .i64 f.Drop, AV.int .i64 f.Limit, AV.undef] ∧ [AV.ref (22 : Nat) (0 : Nat)] = [AV.ref (22 : Nat) (0 : Nat)] ∧ [AV.int .i64 n9] = [AV.int .i64 n9] ∧ [AV.slc (3 : Nat) es27] = [AV.slc (3 : Nat) es27] ∧ [AV.int .i64 n43, AV.int .i64 n44] = [AV.int .i64 n43, AV.int .i64 n44] ∧ [AV.int .i64 n52, AV.int .i64 n53] = [AV.int .i64 n52, AV.int .i64 n53] ∧ ∃ es96, (es96.length = es75.length + (1 : Nat) ∧ List.flatMap AV.cells es96 = List.flatMap AV.cells es75 ++ [AV.int .i64 (163 : Int), AV.int .i64 n9, AV.int .i64 n69]) ∧ I64 (i67 + (1 : Nat)) [AV.slc (3 : Nat) es96]) ∧ (b83 = false → f.cs = f.cs ∧ [AV.slc (3 : Nat) (List.map TFeCable.av f.Cables), AV.slc (3 : Nat) (List.map TFeFuse.av f.Fuses), AV.slc (3 : Nat) (List.map TFeNode.av f.Nodes), AV.int .i64 f.Volts.Lo, AV.int .i64 f.Volts.Hi, AV.int .i64 f.Source.Lo, AV.int .i64 f.Source.Hi, AV.int .i64 f.Drop, AV.int .i64 f.Limit, AV.undef] = [AV.slc (3 : Nat) (List.map TFeCable.av f.Cables), AV.slc (3 : Nat) (List.map TFeFuse.av f.Fuses), AV.slc (3 : Nat) (List.map TFeNode.av f.Nodes), AV.int .i64 f.Volts.Lo, AV.int .i64 f.Volts.Hi, AV.int .i64 f.Source.Lo, AV.int .i64 f.Source.Hi, AV.int .i64 f.Drop, AV.int .i64 f.Limit, AV.undef] ∧ [AV.ref (22 : Nat) (0 : Nat)] = [AV.ref (22 : Nat) (0 : Nat)] ∧ [AV.int .i64 n9] = [AV.int .i64 n9] ∧ [AV.slc (3 : Nat) es27] = [AV.slc (3 : Nat) es27] ∧ [AV.int .i64 n43, AV.int .i64 n44] = [AV.int .i64 n43, AV.int .i64 n44] ∧ [AV.int .i64 n52, AV.int .i64 n53] = [AV.int .i64 n52, AV.int .i64 n53] ∧ ∃ es94, (es94.length = es75.length ∧ List.flatMap AV.cells es94 = List.flatMap AV.cells es75) ∧ I64 (i67 + (1 : Nat)) [AV.slc (3 : Nat) es94])) ∧ ∀ (es67 : List AV), I64 xs61.length [AV.slc (3 : Nat) es67] → f.cs = f.cs ∧ [AV.slc (3 : Nat) (List.map TFeCable.av f.Cables), AV.slc (3 : Nat) (List.map TFeFuse.av f.Fuses), AV.slc (3 : Nat) (List.map TFeNode.av f.Nodes), AV.int .i64 f.Volts.Lo, AV.int .i64 f.Volts.Hi, AV.int .i64 f.Source.Lo, AV.int .i64 f.Source.Hi, AV.int .i64 f.Drop, AV.int .i64 f.Limit, AV.undef] = [AV.slc (3 : Nat) (List.map TFeCable.av f.Cables), AV.slc (3 : Nat) (List.map TFeFuse.av f.Fuses), AV.slc (3 : Nat) (List.map TFeNode.av f.Nodes), AV.int .i64 f.Volts.Lo, AV.int .i64 f.Volts.Hi, AV.int .i64 f.Source.Lo, AV.int .i64 f.Source.Hi, AV.int .i64 f.Drop, AV.int .i64 f.Limit, AV.undef] ∧ [AV.ref (22 : Nat) (0 : Nat)] = [AV.ref (22 : Nat) (0 : Nat)] ∧ [AV.int .i64 n9] = [AV.int .i64 n9] ∧ [AV.slc (3 : Nat) es27] = [AV.slc (3 : Nat) es27] ∧ ∃ es74, (es74.length = es67.length ∧ List.flatMap AV.cells es74 = List.flatMap AV.cells es67) ∧ ∃ k76, k76 < m33 ∧ I31 k76 [AV.int .i64 (IntKind.i64.wrap (n34 + (1 : Int))), AV.slc (3 : Nat) es74]) ∧ (decide (n34 < (2 : Int)) = false → f.cs = f.cs ∧ [AV.slc (3 : Nat) (List.map TFeCable.av f.Cables), AV.slc (3 : Nat) (List.map TFeFuse.av f.Fuses), AV.slc (3 : Nat) (List.map TFeNode.av f.Nodes), AV.int .i64 f.Volts.Lo, AV.int .i64 f.Volts.Hi, AV.int .i64 f.Source.Lo, AV.int .i64 f.Source.Hi, AV.int .i64 f.Drop, AV.int .i64 f.Limit, AV.undef] = [AV.slc (3 : Nat) (List.map TFeCable.av f.Cables), AV.slc (3 : Nat) (List.map TFeFuse.av f.Fuses), AV.slc (3 : Nat) (List.map TFeNode.av f.Nodes), AV.int .i64 f.Volts.Lo, AV.int .i64 f.Volts.Hi, AV.int .i64 f.Source.Lo, AV.int .i64 f.Source.Hi, AV.int .i64 f.Drop, AV.int .i64 f.Limit, AV.undef] ∧ ∃ es41, (es41.length = es35.length ∧ List.flatMap AV.cells es41 = List.flatMap AV.cells es35) ∧ ∃ k43, k43 < m16 ∧ I14 k43 [AV.int .i64 (IntKind.i64.wrap (n17 + (1 : Int))), AV.slc (3 : Nat) es41]))) ∧ (decide (n9 > (0 : Int)) = false → f.cs = f.cs ∧ [AV.slc (3 : Nat) (List.map TFeCable.av f.Cables), AV.slc (3 : Nat) (List.map TFeFuse.av f.Fuses), AV.slc (3 : Nat) (List.map TFeNode.av f.Nodes), AV.int .i64 f.Volts.Lo, AV.int .i64 f.Volts.Hi, AV.int .i64 f.Source.Lo, AV.int .i64 f.Source.Hi, AV.int .i64 f.Drop, AV.int .i64 f.Limit, AV.undef] = [AV.slc (3 : Nat) (List.map TFeCable.av f.Cables), AV.slc (3 : Nat) (List.map TFeFuse.av f.Fuses), AV.slc (3 : Nat) (List.map TFeNode.av f.Nodes), AV.int .i64 f.Volts.Lo, AV.int .i64 f.Volts.Hi, AV.int .i64 f.Source.Lo, AV.int .i64 f.Source.Hi, AV.int .i64 f.Drop, AV.int .i64 f.Limit, AV.undef] ∧ ∃ es29, (es29.length = es18.length ∧ List.flatMap AV.cells es29 = List.flatMap AV.cells es18) ∧ ∃ k31, k31 < m16 ∧ I14 k31 [AV.int .i64 (IntKind.i64.wrap (n17 + (1 : Int))), AV.slc (3 : Nat) es29])) ∧ (n17 = (1 : Int) → (decide (n9 > (0 : Int)) = true → ∃ (I28 : Nat → List AV → Prop), (∃ es30, (es30.length = es18.length ∧ List.flatMap AV.cells es30 = List.flatMap AV.cells es18) ∧ ∃ m32, I28 m32 [AV.int .i64 (0 : Int), AV.slc (3 : Nat) es30]) ∧ ∀ (m30 : Nat) (n31 : Int) (es32 : List AV), I28 m30 [AV.int .i64 n31, AV.slc (3 : Nat) es32] → (decide (n31 < (3 : Int)) = true → ∃ n36, S (62 : Nat) [f.av, AV.int .i64 n9, AV.int .i64 n31] [] (AV.int .i64 n36) [] ∧ (decide (n36 > f.Drop) = true → elemsOf (3 : Nat) [AV.agg [AV.int .i64 (161 : Int), AV.int .i64 n9, AV.int .i64 n31]] ∧ ((List.flatMap AV.cells es32).length = es32.length * Try.prog.cellsOf (44 : Nat) ∧ (es32.length + (1 : Nat) + (512 : Nat)) * (121 : Nat) ≤ (1125899906842624 : Nat) ∧ ones [AV.int .i64 (161 : Int), AV.int .i64 n9, AV.int .i64 n31] = true ∧ ones (List.flatMap AV.cells es32) = true) ∧ f.cs = f.cs ∧ [AV.slc (3 : Nat) (List.map TFeCable.av f.Cables), AV.slc (3 : Nat) (List.map TFeFuse.av f.Fuses), AV.slc (3 : Nat) (List.map TFeNode.av f.Nodes), AV.int .i64 f.Volts.Lo, AV.int .i64 f.Volts.Hi, AV.int .i64 f.Source.Lo, AV.int .i64 f.Source.Hi, AV.int .i64 f.Drop, AV.int .i64 f.Limit, AV.undef] = [AV.slc (3 : Nat) (List.map TFeCable.av f.Cables), AV.slc (3 : Nat) (List.map TFeFuse.av f.Fuses), AV.slc (3 : Nat) (List.map TFeNode.av f.Nodes), AV.int .i64 f.Volts.Lo, AV.int .i64 f.Volts.Hi, AV.int .i64 f.Source.Lo, AV.int .i64 f.Source.Hi, AV.int .i64 f.Drop, AV.int .i64 f.Limit, AV.undef] ∧ ∃ es44, (es44.length = es32.length + (1 : Nat) ∧ List.flatMap AV.cells es44 = List.flatMap AV.cells es32 ++ [AV.int .i64 (161 : Int), AV.int .i64 n9, AV.int .i64 n31]) ∧ ∃ k46, k46 < m30 ∧ I28 k46 [AV.int .i64 (IntKind.i64.wrap (n31 + (1 : Int))), AV.slc (3 : Nat) es44]) ∧ (decide (n36 > f.Drop) = false → f.cs = f.cs ∧ [AV.slc (3 : Nat) (List.map TFeCable.av f.Cables), AV.slc (3 : Nat) (List.map TFeFuse.av f.Fuses), AV.slc (3 : Nat) (List.map TFeNode.av f.Nodes), AV.int .i64 f.Volts.Lo, AV.int .i64 f.Volts.Hi, AV.int .i64 f.Source.Lo, AV.int .i64 f.Source.Hi, AV.int .i64 f.Drop, AV.int .i64 f.Limit, AV.undef] = [AV.slc (3 : Nat) (List.map TFeCable.av f.Cables), AV.slc (3 : Nat) (List.map TFeFuse.av f.Fuses), AV.slc (3 : Nat) (List.map TFeNode.av f.Nodes), AV.int .i64 f.Volts.Lo, AV.int .i64 f.Volts.Hi, AV.int .i64 f.Source.Lo, AV.int .i64 f.Source.Hi, AV.int .i64 f.Drop, AV.int .i64 f.Limit, AV.undef] ∧ ∃ es42, (es42.length = es32.length ∧ List.flatMap AV.cells es42 = List.flatMap AV.cells es32) ∧ ∃ k44, k44 < m30 ∧ I28 k44 [AV.int .i64 (IntKind.i64.wrap (n31 + (1 : Int))), AV.slc (3 : Nat) es42])) ∧ (decide (n31 < (3 : Int)) = false → f.cs = f.cs ∧ [AV.slc (3 : Nat) (List.map TFeCable.av f.Cables), AV.slc (3 : Nat) (List.map TFeFuse.av f.Fuses), AV.slc (3 : Nat) (List.map TFeNode.av f.Nodes), AV.int .i64 f.Volts.Lo, AV.int .i64 f.Volts.Hi, AV.int .i64 f.Source.Lo, AV.int .i64 f.Source.Hi, AV.int .i64 f.Drop, AV.int .i64 f.Limit, AV.undef] = [AV.slc (3 : Nat) (List.map TFeCable.av f.Cables), AV.slc (3 : Nat) (List.map TFeFuse.av f.Fuses), AV.slc (3 : Nat) (List.map TFeNode.av f.Nodes), AV.int .i64 f.Volts.Lo, AV.int .i64 f.Volts.Hi, AV.int .i64 f.Source.Lo, AV.int .i64 f.Source.Hi, AV.int .i64 f.Drop, AV.int .i64 f.Limit, AV.undef] ∧ ∃ es38, (es38.length = es32.length ∧ List.flatMap AV.cells es38 = List.flatMap AV.cells es32) ∧ ∃ k40, k40 < m16 ∧ I14 k40 [AV.int .i64 (IntKind.i64.wrap (n17 + (1 : Int))), AV.slc (3 : Nat) es38])) ∧ (decide (n9 > (0 : Int)) = false → f.cs = f.cs ∧ [AV.slc (3 : Nat) (List.map TFeCable.av f.Cables), AV.slc (3 : Nat) (List.map TFeFuse.av f.Fuses), AV.slc (3 : Nat) (List.map TFeNode.av f.Nodes), AV.int .i64 f.Volts.Lo, AV.int .i64 f.Volts.Hi, AV.int .i64 f.Source.Lo, AV.int .i64 f.Source.Hi, AV.int .i64 f.Drop, AV.int .i64 f.Limit, AV.undef] = [AV.slc (3 : Nat) (List.map TFeCable.av f.Cables), AV.slc (3 : Nat) (List.map TFeFuse.av f.Fuses), AV.slc (3 : Nat) (List.map TFeNode.av f.Nodes), AV.int .i64 f.Volts.Lo, AV.int .i64 f.Volts.Hi, AV.int .i64 f.Source.Lo, AV.int .i64 f.Source.Hi, AV.int .i64 f.Drop, AV.int .i64 f.Limit, AV.undef] ∧ ∃ es30, (es30.length = es18.length ∧ List.flatMap AV.cells es30 = List.flatMap AV.cells es18) ∧ ∃ k32, k32 < m16 ∧ I14 k32 [AV.int .i64 (IntKind.i64.wrap (n17 + (1 : Int))), AV.slc (3 : Nat) es30])) ∧ (n17 = (0 : Int) → (decide (n9 > (0 : Int)) = true → ∃ s29 n30 n31 n32 n33 n34 n35 n36 n37 n38 n39, ((0 : Int) ≤ n9 ∧ (11 : Nat) = (11 : Nat) ∧ (List.map TFeNode.av f.Nodes)[n9.toNat]? = some (AV.agg [AV.str s29, AV.int .i64 n30, AV.int .i64 n31, AV.int .i64 n32, AV.int .i64 n33, AV.int .i64 n34, AV.int .i64 n35, AV.int .i64 n36, AV.int .i64 n37, AV.int .i64 n38, AV.int .i64 n39])) ∧ ∃ n41 n42 n43 n44 n45 n46, S (74 : Nat) [f.av, AV.int .i64 n9] [] (AV.agg [AV.int .i64 n41, AV.int .i64 n42, AV.int .i64 n43, AV.int .i64 n44, AV.int .i64 n45, AV.int .i64 n46]) [] ∧ ∃ (I48 : Nat → List AV → Prop), (∃ es50, (es50.length = es18.length ∧ List.flatMap AV.cells es50 = List.flatMap AV.cells es18) ∧ ∃ m52, I48 m52 [AV.int .i64 (0 : Int), AV.slc (3 : Nat) es50]) ∧ ∀ (m50 : Nat) (n51 : Int) (es52 : List AV), I48 m50 [AV.int .i64 n51, AV.slc (3 : Nat) es52] → (decide (n51 < (3 : Int)) = true → ((0 : Int) ≤ n51 ∧ n51 < (3 : Int)) ∧ (n51 = (2 : Int) → ∃ s59 n60 n61 n62 n63 n64, ((0 : Int) ≤ n31 ∧ (6 : Nat) = (6 : Nat) ∧ (List.map TFeCable.av f.Cables)[n31.toNat]? = some (AV.agg [AV.str s59, AV.int .i64 n60, AV.int .i64 n61, AV.int .i64 n62, AV.int .i64 n63, AV.int .i64 n64])) ∧ (decide (n46 > n64) = true → elemsOf (3 : Nat) [AV.agg [AV.int .i64 (160 : Int), AV.int .i64 n9, AV.int .i64 n51]] ∧ ((List.flatMap AV.cells es52).length = es52.length * Try.prog.cellsOf (44 : Nat) ∧ (es52.length + (1 : Nat) + (512 : Nat)) * (121 : Nat) ≤ (1125899906842624 : Nat) ∧ ones [AV.int .i64 (160 : Int), AV.int .i64 n9, AV.int .i64 n51] = true ∧ ones (List.flatMap AV.cells es52) = true) ∧ f.cs = f.cs ∧ [AV.slc (3 : Nat) (List.map TFeCable.av f.Cables), AV.slc (3 : Nat) (List.map TFeFuse.av f.Fuses), AV.slc (3 : Nat) (List.map TFeNode.av f.Nodes), AV.int .i64 f.Volts.Lo, AV.int .i64 f.Volts.Hi, AV.int .i64 f.Source.Lo, AV.int .i64 f.Source.Hi, AV.int .i64 f.Drop, AV.int .i64 f.Limit, AV.undef] = [AV.slc (3 : Nat) (List.map TFeCable.av f.Cables), AV.slc (3 : Nat) (List.map TFeFuse.av f.Fuses), AV.slc (3 : Nat) (List.map TFeNode.av f.Nodes), AV.int .i64 f.Volts.Lo, AV.int .i64 f.Volts.Hi, AV.int .i64 f.Source.Lo, AV.int .i64 f.Source.Hi, AV.int .i64 f.Drop, AV.int .i64 f.Limit, AV.undef] ∧ [AV.str s29, AV.int .i64 n30, AV.int .i64 n31, AV.int .i64 n32, AV.int .i64 n33, AV.int .i64 n34, AV.int .i64 n35, AV.int .i64 n36, AV.int .i64 n37, AV.int .i64 n38, AV.int .i64 n39] = [AV.str s29, AV.int .i64 n30, AV.int .i64 n31, AV.int .i64 n32, AV.int .i64 n33, AV.int .i64 n34, AV.int .i64 n35, AV.int .i64 n36, AV.int .i64 n37, AV.int .i64 n38, AV.int .i64 n39] ∧ ∃ es73, (es73.length = es52.length + (1 : Nat) ∧ List.flatMap AV.cells es73 = List.flatMap AV.cells es52 ++ [AV.int .i64 (160 : Int), AV.int .i64 n9, AV.int .i64 n51]) ∧ ∃ k75, k75 < m50 ∧ I48 k75 [AV.int .i64 (IntKind.i64.wrap (n51 + (1 : Int))), AV.slc (3 : Nat) es73]) ∧ (decide (n46 > n64) = false → (decide (n33 ≥ (0 : Int)) = true → ∃ s70 n71 es72, ((0 : Int) ≤ n33 ∧ (3 : Nat) = (3 : Nat) ∧ (List.map TFeFuse.av f.Fuses)[n33.toNat]? = some (AV.agg [AV.str s70, AV.int .i64 n71, AV.slc (3 : Nat) es72])) ∧ (decide (n46 > n71) = true → elemsOf (3 : Nat) [AV.agg [AV.int .i64 (160 : Int), AV.int .i64 n9, AV.int .i64 n51]] ∧ ((List.flatMap AV.cells es52).length = es52.length * Try.prog.cellsOf (44 : Nat) ∧ (es52.length + (1 : Nat) + (512 : Nat)) * (121 : Nat) ≤ (1125899906842624 : Nat) ∧ ones [AV.int .i64 (160 : Int), AV.int .i64 n9, AV.int .i64 n51] = true ∧ ones (List.flatMap AV.cells es52) = true) ∧ f.cs = f.cs ∧ [AV.slc (3 : Nat) (List.map TFeCable.av f.Cables), AV.slc (3 : Nat) (List.map TFeFuse.av f.Fuses), AV.slc (3 : Nat) (List.map TFeNode.av f.Nodes), AV.int .i64 f.Volts.Lo, AV.int .i64 f.Volts.Hi, AV.int .i64 f.Source.Lo, AV.int .i64 f.Source.Hi, AV.int .i64 f.Drop, AV.int .i64 f.Limit, AV.undef] = [AV.slc (3 : Nat) (List.map TFeCable.av f.Cables), AV.slc (3 : Nat) (List.map TFeFuse.av f.Fuses), AV.slc (3 : Nat) (List.map TFeNode.av f.Nodes), AV.int .i64 f.Volts.Lo, AV.int .i64 f.Volts.Hi, AV.int .i64 f.Source.Lo, AV.int .i64 f.Source.Hi, AV.int .i64 f.Drop, AV.int .i64 f.Limit, AV.undef] ∧ [AV.str s29, AV.int .i64 n30, AV.int .i64 n31, AV.int .i64 n32, AV.int .i64 n33, AV.int .i64 n34, AV.int .i64 n35, AV.int .i64 n36, AV.int .i64 n37, AV.int .i64 n38, AV.int .i64 n39] = [AV.str s29, AV.int .i64 n30, AV.int .i64 n31, AV.int .i64 n32, AV.int .i64 n33, AV.int .i64 n34, AV.int .i64 n35, AV.int .i64 n36, AV.int .i64 n37, AV.int .i64 n38, AV.int .i64 n39] ∧ ∃ es81, (es81.length = es52.length + (1 : Nat) ∧ List.flatMap AV.cells es81 = List.flatMap AV.cells es52 ++ [AV.int .i64 (160 : Int), AV.int .i64 n9, AV.int .i64 n51]) ∧ ∃ k83, k83 < m50 ∧ I48 k83 [AV.int .i64 (IntKind.i64.wrap (n51 + (1 : Int))), AV.slc (3 : Nat) es81]) ∧ (decide (n46 > n71) = false → f.cs = f.cs ∧ [AV.slc (3 : Nat) (List.map TFeCable.av f.Cables), AV.slc (3 : Nat) (List.map TFeFuse.av f.Fuses), AV.slc (3 : Nat) (List.map TFeNode.av f.Nodes), AV.int .i64 f.Volts.Lo, AV.int .i64 f.Volts.Hi, AV.int .i64 f.Source.Lo, AV.int .i64 f.Source.Hi, AV.int .i64 f.Drop, AV.int .i64 f.Limit, AV.undef] = [AV.slc (3 : Nat) (List.map TFeCable.av f.Cables), AV.slc (3 : Nat) (List.map TFeFuse.av f.Fuses), AV.slc (3 : Nat) (List.map TFeNode.av f.Nodes), AV.int .i64 f.Volts.Lo, AV.int .i64 f.Volts.Hi, AV.int .i64 f.Source.Lo, AV.int .i64 f.Source.Hi, AV.int .i64 f.Drop, AV.int .i64 f.Limit, AV.undef] ∧ [AV.str s29, AV.int .i64 n30, AV.int .i64 n31, AV.int .i64 n32, AV.int .i64 n33, AV.int .i64 n34, AV.int .i64 n35, AV.int .i64 n36, AV.int .i64 n37, AV.int .i64 n38, AV.int .i64 n39] = [AV.str s29, AV.int .i64 n30, AV.int .i64 n31, AV.int .i64 n32, AV.int .i64 n33, AV.int .i64 n34, AV.int .i64 n35, AV.int .i64 n36, AV.int .i64 n37, AV.int .i64 n38, AV.int .i64 n39] ∧ ∃ es79, (es79.length = es52.length ∧ List.flatMap AV.cells es79 = List.flatMap AV.cells es52) ∧ ∃ k81, k81 < m50 ∧ I48 k81 [AV.int .i64 (IntKind.i64.wrap (n51 + (1 : Int))), AV.slc (3 : Nat) es79])) ∧ (decide (n33 ≥ (0 : Int)) = false → f.cs = f.cs ∧ [AV.slc (3 : Nat) (List.map TFeCable.av f.Cables), AV.slc (3 : Nat) (List.map TFeFuse.av f.Fuses), AV.slc (3 : Nat) (List.map TFeNode.av f.Nodes), AV.int .i64 f.Volts.Lo, AV.int .i64 f.Volts.Hi, AV.int .i64 f.Source.Lo, AV.int .i64 f.Source.Hi, AV.int .i64 f.Drop, AV.int .i64 f.Limit, AV.undef] = [AV.slc (3 : Nat) (List.map TFeCable.av f.Cables), AV.slc (3 : Nat) (List.map TFeFuse.av f.Fuses), AV.slc (3 : Nat) (List.map TFeNode.av f.Nodes), AV.int .i64 f.Volts.Lo, AV.int .i64 f.Volts.Hi, AV.int .i64 f.Source.Lo, AV.int .i64 f.Source.Hi, AV.int .i64 f.Drop, AV.int .i64 f.Limit, AV.undef] ∧ [AV.str s29, AV.int .i64 n30, AV.int .i64 n31, AV.int .i64 n32, AV.int .i64 n33, AV.int .i64 n34, AV.int .i64 n35, AV.int .i64 n36, AV.int .i64 n37, AV.int .i64 n38, AV.int .i64 n39] = [AV.str s29, AV.int .i64 n30, AV.int .i64 n31, AV.int .i64 n32, AV.int .i64 n33, AV.int .i64 n34, AV.int .i64 n35, AV.int .i64 n36, AV.int .i64 n37, AV.int .i64 n38, AV.int .i64 n39] ∧ ∃ es73, (es73.length = es52.length ∧ List.flatMap AV.cells es73 = List.flatMap AV.cells es52) ∧ ∃ k75, k75 < m50 ∧ I48 k75 [AV.int .i64 (IntKind.i64.wrap (n51 + (1 : Int))), AV.slc (3 : Nat) es73]))) ∧ (n51 = (1 : Int) → ∃ s60 n61 n62 n63 n64 n65, ((0 : Int) ≤ n31 ∧ (6 : Nat) = (6 : Nat) ∧ (List.map TFeCable.av f.Cables)[n31.toNat]? = some (AV.agg [AV.str s60, AV.int .i64 n61, AV.int .i64 n62, AV.int .i64 n63, AV.int .i64 n64, AV.int .i64 n65])) ∧ (decide (n44 > n65) = true → elemsOf (3 : Nat) [AV.agg [AV.int .i64 (160 : Int), AV.int .i64 n9, AV.int .i64 n51]] ∧ ((List.flatMap AV.cells es52).length = es52.length * Try.prog.cellsOf (44 : Nat) ∧ (es52.length + (1 : Nat) + (512 : Nat)) * (121 : Nat) ≤ (1125899906842624 : Nat) ∧ ones [AV.int .i64 (160 : Int), AV.int .i64 n9, AV.int .i64 n51] = true ∧ ones (List.flatMap AV.cells es52) = true) ∧ f.cs = f.cs ∧ [AV.slc (3 : Nat) (List.map TFeCable.av f.Cables), AV.slc (3 : Nat) (List.map TFeFuse.av f.Fuses), AV.slc (3 : Nat) (List.map TFeNode.av f.Nodes), AV.int .i64 f.Volts.Lo, AV.int .i64 f.Volts.Hi, AV.int .i64 f.Source.Lo, AV.int .i64 f.Source.Hi, AV.int .i64 f.Drop, AV.int .i64 f.Limit, AV.undef] = [AV.slc (3 : Nat) (List.map TFeCable.av f.Cables), AV.slc (3 : Nat) (List.map TFeFuse.av f.Fuses), AV.slc (3 : Nat) (List.map TFeNode.av f.Nodes), AV.int .i64 f.Volts.Lo, AV.int .i64 f.Volts.Hi, AV.int .i64 f.Source.Lo, AV.int .i64 f.Source.Hi, AV.int .i64 f.Drop, AV.int .i64 f.Limit, AV.undef] ∧ [AV.str s29, AV.int .i64 n30, AV.int .i64 n31, AV.int .i64 n32, AV.int .i64 n33, AV.int .i64 n34, AV.int .i64 n35, AV.int .i64 n36, AV.int .i64 n37, AV.int .i64 n38, AV.int .i64 n39] = [AV.str s29, AV.int .i64 n30, AV.int .i64 n31, AV.int .i64 n32, AV.int .i64 n33, AV.int .i64 n34, AV.int .i64 n35, AV.int .i64 n36, AV.int .i64 n37, AV.int .i64 n38, AV.int .i64 n39] ∧ ∃ es74, (es74.length = es52.length + (1 : Nat) ∧ List.flatMap AV.cells es74 = List.flatMap AV.cells es52 ++ [AV.int .i64 (160 : Int), AV.int .i64 n9, AV.int .i64 n51]) ∧ ∃ k76, k76 < m50 ∧ I48 k76 [AV.int .i64 (IntKind.i64.wrap (n51 + (1 : Int))), AV.slc (3 : Nat) es74]) ∧ (decide (n44 > n65) = false → (decide (n33 ≥ (0 : Int)) = true → ∃ s71 n72 es73, ((0 : Int) ≤ n33 ∧ (3 : Nat) = (3 : Nat) ∧ (List.map TFeFuse.av f.Fuses)[n33.toNat]? = some (AV.agg [AV.str s71, AV.int .i64 n72, AV.slc (3 : Nat) es73])) ∧ (decide (n44 > n72) = true → elemsOf (3 : Nat) [AV.agg [AV.int .i64 (160 : Int), AV.int .i64 n9, AV.int .i64 n51]] ∧ ((List.flatMap AV.cells es52).length = es52.length * Try.prog.cellsOf (44 : Nat) ∧ (es52.length + (1 : Nat) + (512 : Nat)) * (121 : Nat) ≤ (1125899906842624 : Nat) ∧ ones [AV.int .i64 (160 : Int), AV.int .i64 n9, AV.int .i64 n51] = true ∧ ones (List.flatMap AV.cells es52) = true) ∧ f.cs = f.cs ∧ [AV.slc (3 : Nat) (List.map TFeCable.av f.Cables), AV.slc (3 : Nat) (List.map TFeFuse.av f.Fuses), AV.slc (3 : Nat) (List.map TFeNode.av f.Nodes), AV.int .i64 f.Volts.Lo, AV.int .i64 f.Volts.Hi, AV.int .i64 f.Source.Lo, AV.int .i64 f.Source.Hi, AV.int .i64 f.Drop, AV.int .i64 f.Limit, AV.undef] = [AV.slc (3 : Nat) (List.map TFeCable.av f.Cables), AV.slc (3 : Nat) (List.map TFeFuse.av f.Fuses), AV.slc (3 : Nat) (List.map TFeNode.av f.Nodes), AV.int .i64 f.Volts.Lo, AV.int .i64 f.Volts.Hi, AV.int .i64 f.Source.Lo, AV.int .i64 f.Source.Hi, AV.int .i64 f.Drop, AV.int .i64 f.Limit, AV.undef] ∧ [AV.str s29, AV.int .i64 n30, AV.int .i64 n31, AV.int .i64 n32, AV.int .i64 n33, AV.int .i64 n34, AV.int .i64 n35, AV.int .i64 n36, AV.int .i64 n37, AV.int .i64 n38, AV.int .i64 n39] = [AV.str s29, AV.int .i64 n30, AV.int .i64 n31, AV.int .i64 n32, AV.int .i64 n33, AV.int .i64 n34, AV.int .i64 n35, AV.int .i64 n36, AV.int .i64 n37, AV.int .i64 n38, AV.int .i64 n39] ∧ ∃ es82, (es82.length = es52.length + (1 : Nat) ∧ List.flatMap AV.cells es82 = List.flatMap AV.cells es52 ++ [AV.int .i64 (160 : Int), AV.int .i64 n9, AV.int .i64 n51]) ∧ ∃ k84, k84 < m50 ∧ I48 k84 [AV.int .i64 (IntKind.i64.wrap (n51 + (1 : Int))), AV.slc (3 : Nat) es82]) ∧ (decide (n44 > n72) = false → f.cs = f.cs ∧ [AV.slc (3 : Nat) (List.map TFeCable.av f.Cables), AV.slc (3 : Nat) (List.map TFeFuse.av f.Fuses), AV.slc (3 : Nat) (List.map TFeNode.av f.Nodes), AV.int .i64 f.Volts.Lo, AV.int .i64 f.Volts.Hi, AV.int .i64 f.Source.Lo, AV.int .i64 f.Source.Hi, AV.int .i64 f.Drop, AV.int .i64 f.Limit, AV.undef] = [AV.slc (3 : Nat) (List.map TFeCable.av f.Cables), AV.slc (3 : Nat) (List.map TFeFuse.av f.Fuses), AV.slc (3 : Nat) (List.map TFeNode.av f.Nodes), AV.int .i64 f.Volts.Lo, AV.int .i64 f.Volts.Hi, AV.int .i64 f.Source.Lo, AV.int .i64 f.Source.Hi, AV.int .i64 f.Drop, AV.int .i64 f.Limit, AV.undef] ∧ [AV.str s29, AV.int .i64 n30, AV.int .i64 n31, AV.int .i64 n32, AV.int .i64 n33, AV.int .i64 n34, AV.int .i64 n35, AV.int .i64 n36, AV.int .i64 n37, AV.int .i64 n38, AV.int .i64 n39] = [AV.str s29, AV.int .i64 n30, AV.int .i64 n31, AV.int .i64 n32, AV.int .i64 n33, AV.int .i64 n34, AV.int .i64 n35, AV.int .i64 n36, AV.int .i64 n37, AV.int .i64 n38, AV.int .i64 n39] ∧ ∃ es80, (es80.length = es52.length ∧ List.flatMap AV.cells es80 = List.flatMap AV.cells es52) ∧ ∃ k82, k82 < m50 ∧ I48 k82 [AV.int .i64 (IntKind.i64.wrap (n51 + (1 : Int))), AV.slc (3 : Nat) es80])) ∧ (decide (n33 ≥ (0 : Int)) = false → f.cs = f.cs ∧ [AV.slc (3 : Nat) (List.map TFeCable.av f.Cables), AV.slc (3 : Nat) (List.map TFeFuse.av f.Fuses), AV.slc (3 : Nat) (List.map TFeNode.av f.Nodes), AV.int .i64 f.Volts.Lo, AV.int .i64 f.Volts.Hi, AV.int .i64 f.Source.Lo, AV.int .i64 f.Source.Hi, AV.int .i64 f.Drop, AV.int .i64 f.Limit, AV.undef] = [AV.slc (3 : Nat) (List.map TFeCable.av f.Cables), AV.slc (3 : Nat) (List.map TFeFuse.av f.Fuses), AV.slc (3 : Nat) (List.map TFeNode.av f.Nodes), AV.int .i64 f.Volts.Lo, AV.int .i64 f.Volts.Hi, AV.int .i64 f.Source.Lo, AV.int .i64 f.Source.Hi, AV.int .i64 f.Drop, AV.int .i64 f.Limit, AV.undef] ∧ [AV.str s29, AV.int .i64 n30, AV.int .i64 n31, AV.int .i64 n32, AV.int .i64 n33, AV.int .i64 n34, AV.int .i64 n35, AV.int .i64 n36, AV.int .i64 n37, AV.int .i64 n38, AV.int .i64 n39] = [AV.str s29, AV.int .i64 n30, AV.int .i64 n31, AV.int .i64 n32, AV.int .i64 n33, AV.int .i64 n34, AV.int .i64 n35, AV.int .i64 n36, AV.int .i64 n37, AV.int .i64 n38, AV.int .i64 n39] ∧ ∃ es74, (es74.length = es52.length ∧ List.flatMap AV.cells es74 = List.flatMap AV.cells es52) ∧ ∃ k76, k76 < m50 ∧ I48 k76 [AV.int .i64 (IntKind.i64.wrap (n51 + (1 : Int))), AV.slc (3 : Nat) es74]))) ∧ (n51 = (0 : Int) → ∃ s61 n62 n63 n64 n65 n66, ((0 : Int) ≤ n31 ∧ (6 : Nat) = (6 : Nat) ∧ (List.map TFeCable.av f.Cables)[n31.toNat]? = some (AV.agg [AV.str s61, AV.int .i64 n62, AV.int .i64 n63, AV.int .i64 n64, AV.int .i64 n65, AV.int .i64 n66])) ∧ (decide (n42 > n66) = true → elemsOf (3 : Nat) [AV.agg [AV.int .i64 (160 : Int), AV.int .i64 n9, AV.int .i64 n51]] ∧ ((List.flatMap AV.cells es52).length = es52.length * Try.prog.cellsOf (44 : Nat) ∧ (es52.length + (1 : Nat) + (512 : Nat)) * (121 : Nat) ≤ (1125899906842624 : Nat) ∧ ones [AV.int .i64 (160 : Int), AV.int .i64 n9, AV.int .i64 n51] = true ∧ ones (List.flatMap AV.cells es52) = true) ∧ f.cs = f.cs ∧ [AV.slc (3 : Nat) (List.map TFeCable.av f.Cables), AV.slc (3 : Nat) (List.map TFeFuse.av f.Fuses), AV.slc (3 : Nat) (List.map TFeNode.av f.Nodes), AV.int .i64 f.Volts.Lo, AV.int .i64 f.Volts.Hi, AV.int .i64 f.Source.Lo, AV.int .i64 f.Source.Hi, AV.int .i64 f.Drop, AV.int .i64 f.Limit, AV.undef] = [AV.slc (3 : Nat) (List.map TFeCable.av f.Cables), AV.slc (3 : Nat) (List.map TFeFuse.av f.Fuses), AV.slc (3 : Nat) (List.map TFeNode.av f.Nodes), AV.int .i64 f.Volts.Lo, AV.int .i64 f.Volts.Hi, AV.int .i64 f.Source.Lo, AV.int .i64 f.Source.Hi, AV.int .i64 f.Drop, AV.int .i64 f.Limit, AV.undef] ∧ [AV.str s29, AV.int .i64 n30, AV.int .i64 n31, AV.int .i64 n32, AV.int .i64 n33, AV.int .i64 n34, AV.int .i64 n35, AV.int .i64 n36, AV.int .i64 n37, AV.int .i64 n38, AV.int .i64 n39] = [AV.str s29, AV.int .i64 n30, AV.int .i64 n31, AV.int .i64 n32, AV.int .i64 n33, AV.int .i64 n34, AV.int .i64 n35, AV.int .i64 n36, AV.int .i64 n37, AV.int .i64 n38, AV.int .i64 n39] ∧ ∃ es75, (es75.length = es52.length + (1 : Nat) ∧ List.flatMap AV.cells es75 = List.flatMap AV.cells es52 ++ [AV.int .i64 (160 : Int), AV.int .i64 n9, AV.int .i64 n51]) ∧ ∃ k77, k77 < m50 ∧ I48 k77 [AV.int .i64 (IntKind.i64.wrap (n51 + (1 : Int))), AV.slc (3 : Nat) es75]) ∧ (decide (n42 > n66) = false → (decide (n33 ≥ (0 : Int)) = true → ∃ s72 n73 es74, ((0 : Int) ≤ n33 ∧ (3 : Nat) = (3 : Nat) ∧ (List.map TFeFuse.av f.Fuses)[n33.toNat]? = some (AV.agg [AV.str s72, AV.int .i64 n73, AV.slc (3 : Nat) es74])) ∧ (decide (n42 > n73) = true → elemsOf (3 : Nat) [AV.agg [AV.int .i64 (160 : Int), AV.int .i64 n9, AV.int .i64 n51]] ∧ ((List.flatMap AV.cells es52).length = es52.length * Try.prog.cellsOf (44 : Nat) ∧ (es52.length + (1 : Nat) + (512 : Nat)) * (121 : Nat) ≤ (1125899906842624 : Nat) ∧ ones [AV.int .i64 (160 : Int), AV.int .i64 n9, AV.int .i64 n51] = true ∧ ones (List.flatMap AV.cells es52) = true) ∧ f.cs = f.cs ∧ [AV.slc (3 : Nat) (List.map TFeCable.av f.Cables), AV.slc (3 : Nat) (List.map TFeFuse.av f.Fuses), AV.slc (3 : Nat) (List.map TFeNode.av f.Nodes), AV.int .i64 f.Volts.Lo, AV.int .i64 f.Volts.Hi, AV.int .i64 f.Source.Lo, AV.int .i64 f.Source.Hi, AV.int .i64 f.Drop, AV.int .i64 f.Limit, AV.undef] = [AV.slc (3 : Nat) (List.map TFeCable.av f.Cables), AV.slc (3 : Nat) (List.map TFeFuse.av f.Fuses), AV.slc (3 : Nat) (List.map TFeNode.av f.Nodes), AV.int .i64 f.Volts.Lo, AV.int .i64 f.Volts.Hi, AV.int .i64 f.Source.Lo, AV.int .i64 f.Source.Hi, AV.int .i64 f.Drop, AV.int .i64 f.Limit, AV.undef] ∧ [AV.str s29, AV.int .i64 n30, AV.int .i64 n31, AV.int .i64 n32, AV.int .i64 n33, AV.int .i64 n34, AV.int .i64 n35, AV.int .i64 n36, AV.int .i64 n37, AV.int .i64 n38, AV.int .i64 n39] = [AV.str s29, AV.int .i64 n30, AV.int .i64 n31, AV.int .i64 n32, AV.int .i64 n33, AV.int .i64 n34, AV.int .i64 n35, AV.int .i64 n36, AV.int .i64 n37, AV.int .i64 n38, AV.int .i64 n39] ∧ ∃ es83, (es83.length = es52.length + (1 : Nat) ∧ List.flatMap AV.cells es83 = List.flatMap AV.cells es52 ++ [AV.int .i64 (160 : Int), AV.int .i64 n9, AV.int .i64 n51]) ∧ ∃ k85, k85 < m50 ∧ I48 k85 [AV.int .i64 (IntKind.i64.wrap (n51 + (1 : Int))), AV.slc (3 : Nat) es83]) ∧ (decide (n42 > n73) = false → f.cs = f.cs ∧ [AV.slc (3 : Nat) (List.map TFeCable.av f.Cables), AV.slc (3 : Nat) (List.map TFeFuse.av f.Fuses), AV.slc (3 : Nat) (List.map TFeNode.av f.Nodes), AV.int .i64 f.Volts.Lo, AV.int .i64 f.Volts.Hi, AV.int .i64 f.Source.Lo, AV.int .i64 f.Source.Hi, AV.int .i64 f.Drop, AV.int .i64 f.Limit, AV.undef] = [AV.slc (3 : Nat) (List.map TFeCable.av f.Cables), AV.slc (3 : Nat) (List.map TFeFuse.av f.Fuses), AV.slc (3 : Nat) (List.map TFeNode.av f.Nodes), AV.int .i64 f.Volts.Lo, AV.int .i64 f.Volts.Hi, AV.int .i64 f.Source.Lo, AV.int .i64 f.Source.Hi, AV.int .i64 f.Drop, AV.int .i64 f.Limit, AV.undef] ∧ [AV.str s29, AV.int .i64 n30, AV.int .i64 n31, AV.int .i64 n32, AV.int .i64 n33, AV.int .i64 n34, AV.int .i64 n35, AV.int .i64 n36, AV.int .i64 n37, AV.int .i64 n38, AV.int .i64 n39] = [AV.str s29, AV.int .i64 n30, AV.int .i64 n31, AV.int .i64 n32, AV.int .i64 n33, AV.int .i64 n34, AV.int .i64 n35, AV.int .i64 n36, AV.int .i64 n37, AV.int .i64 n38, AV.int .i64 n39] ∧ ∃ es81, (es81.length = es52.length ∧ List.flatMap AV.cells es81 = List.flatMap AV.cells es52) ∧ ∃ k83, k83 < m50 ∧ I48 k83 [AV.int .i64 (IntKind.i64.wrap (n51 + (1 : Int))), AV.slc (3 : Nat) es81])) ∧ (decide (n33 ≥ (0 : Int)) = false → f.cs = f.cs ∧ [AV.slc (3 : Nat) (List.map TFeCable.av f.Cables), AV.slc (3 : Nat) (List.map TFeFuse.av f.Fuses), AV.slc (3 : Nat) (List.map TFeNode.av f.Nodes), AV.int .i64 f.Volts.Lo, AV.int .i64 f.Volts.Hi, AV.int .i64 f.Source.Lo, AV.int .i64 f.Source.Hi, AV.int .i64 f.Drop, AV.int .i64 f.Limit, AV.undef] = [AV.slc (3 : Nat) (List.map TFeCable.av f.Cables), AV.slc (3 : Nat) (List.map TFeFuse.av f.Fuses), AV.slc (3 : Nat) (List.map TFeNode.av f.Nodes), AV.int .i64 f.Volts.Lo, AV.int .i64 f.Volts.Hi, AV.int .i64 f.Source.Lo, AV.int .i64 f.Source.Hi, AV.int .i64 f.Drop, AV.int .i64 f.Limit, AV.undef] ∧ [AV.str s29, AV.int .i64 n30, AV.int .i64 n31, AV.int .i64 n32, AV.int .i64 n33, AV.int .i64 n34, AV.int .i64 n35, AV.int .i64 n36, AV.int .i64 n37, AV.int .i64 n38, AV.int .i64 n39] = [AV.str s29, AV.int .i64 n30, AV.int .i64 n31, AV.int .i64 n32, AV.int .i64 n33, AV.int .i64 n34, AV.int .i64 n35, AV.int .i64 n36, AV.int .i64 n37, AV.int .i64 n38, AV.int .i64 n39] ∧ ∃ es75, (es75.length = es52.length ∧ List.flatMap AV.cells es75 = List.flatMap AV.cells es52) ∧ ∃ k77, k77 < m50 ∧ I48 k77 [AV.int .i64 (IntKind.i64.wrap (n51 + (1 : Int))), AV.slc (3 : Nat) es75]))) ∧ True) ∧ (decide (n51 < (3 : Int)) = false → f.cs = f.cs ∧ [AV.slc (3 : Nat) (List.map TFeCable.av f.Cables), AV.slc (3 : Nat) (List.map TFeFuse.av f.Fuses), AV.slc (3 : Nat) (List.map TFeNode.av f.Nodes), AV.int .i64 f.Volts.Lo, AV.int .i64 f.Volts.Hi, AV.int .i64 f.Source.Lo, AV.int .i64 f.Source.Hi, AV.int .i64 f.Drop, AV.int .i64 f.Limit, AV.undef] = [AV.slc (3 : Nat) (List.map TFeCable.av f.Cables), AV.slc (3 : Nat) (List.map TFeFuse.av f.Fuses), AV.slc (3 : Nat) (List.map TFeNode.av f.Nodes), AV.int .i64 f.Volts.Lo, AV.int .i64 f.Volts.Hi, AV.int .i64 f.Source.Lo, AV.int .i64 f.Source.Hi, AV.int .i64 f.Drop, AV.int .i64 f.Limit, AV.undef] ∧ ∃ es58, (es58.length = es52.length ∧ List.flatMap AV.cells es58 = List.flatMap AV.cells es52) ∧ ∃ k60, k60 < m16 ∧ I14 k60 [AV.int .i64 (IntKind.i64.wrap (n17 + (1 : Int))), AV.slc (3 : Nat) es58])) ∧ (decide (n9 > (0 : Int)) = false → f.cs = f.cs ∧ [AV.slc (3 : Nat) (List.map TFeCable.av f.Cables), AV.slc (3 : Nat) (List.map TFeFuse.av f.Fuses), AV.slc (3 : Nat) (List.map TFeNode.av f.Nodes), AV.int .i64 f.Volts.Lo, AV.int .i64 f.Volts.Hi, AV.int .i64 f.Source.Lo, AV.int .i64 f.Source.Hi, AV.int .i64 f.Drop, AV.int .i64 f.Limit, AV.undef] = [AV.slc (3 : Nat) (List.map TFeCable.av f.Cables), AV.slc (3 : Nat) (List.map TFeFuse.av f.Fuses), AV.slc (3 : Nat) (List.map TFeNode.av f.Nodes), AV.int .i64 f.Volts.Lo, AV.int .i64 f.Volts.Hi, AV.int .i64 f.Source.Lo, AV.int .i64 f.Source.Hi, AV.int .i64 f.Drop, AV.int .i64 f.Limit, AV.undef] ∧ ∃ es31, (es31.length = es18.length ∧ List.flatMap AV.cells es31 = List.flatMap AV.cells es18) ∧ ∃ k33, k33 < m16 ∧ I14 k33 [AV.int .i64 (IntKind.i64.wrap (n17 + (1 : Int))), AV.slc (3 : Nat) es31])) ∧ True) ∧ (decide (n17 < (3 : Int)) = false → f.cs = f.cs ∧ [AV.slc (3 : Nat) (List.map TFeCable.av f.Cables), AV.slc (3 : Nat) (List.map TFeFuse.av f.Fuses), AV.slc (3 : Nat) (List.map TFeNode.av f.Nodes), AV.int .i64 f.Volts.Lo, AV.int .i64 f.Volts.Hi, AV.int .i64 f.Source.Lo, AV.int .i64 f.Source.Hi, AV.int .i64 f.Drop, AV.int .i64 f.Limit, AV.undef] = [AV.slc (3 : Nat) (List.map TFeCable.av f.Cables), AV.slc (3 : Nat) (List.map TFeFuse.av f.Fuses), AV.slc (3 : Nat) (List.map TFeNode.av f.Nodes), AV.int .i64 f.Volts.Lo, AV.int .i64 f.Volts.Hi, AV.int .i64 f.Source.Lo, AV.int .i64 f.Source.Hi, AV.int .i64 f.Drop, AV.int .i64 f.Limit, AV.undef] ∧ ∃ es24, (es24.length = es18.length ∧ List.flatMap AV.cells es24 = List.flatMap AV.cells es18) ∧ ∃ k26, k26 < m8 ∧ I6 k26 [AV.int .i64 (IntKind.i64.wrap (n9 + (1 : Int))), AV.slc (3 : Nat) es24])) ∧ (decide (n9 < (↑(List.map TFeNode.av f.Nodes).length : Int)) = false → (0 : Nat) + es10.length * Try.prog.cellsOf (44 : Nat) ≤ (List.flatMap AV.cells es10).length ∧ Q (AV.tup [AV.slc (3 : Nat) (chunks (Try.prog.cellsOf (44 : Nat)) (isAggT Try.prog (44 : Nat)) es10.length (List.drop (0 : Nat) (List.flatMap AV.cells es10))), AV.int .i64 (0 : Int)]) []))
theorem r22 (f : TFeFeeder) (S : SpecF) (Fr : FuncId → List AV → Nat → List AV → Prop) (Sq : FuncId → List AV → List (List AV) → List (List AV) → Prop) (Q : AV → List (List AV) → Prop) : awpF Try.prog (mkS Try.prog S Fr Sq ⟨[], [], [], [(105, ⟨[0, 1, 2, 3, 4, 10], [], [], []⟩), (106, ⟨[0, 1, 2], [], [], []⟩), (68, ⟨[0, 1, 4, 5, 6, 20, 21, 22], [⟨2, [(21, .int .i64 0)], [], [], [(2000000, 9, 44)], []⟩], [], []⟩), (69, ⟨[0, 1, 4, 5, 6], [⟨1, [(5, .int .i64 0)], [], [], [(2000000, 9, 44)], []⟩], [], []⟩), (70, ⟨[0, 1, 2, 3, 4, 6, 7, 8, 9, 11, 20, 24, 25, 26, 66, 67, 68], [⟨5, [(25, .int .i64 0)], [], [], [(2000000, 9, 44)], []⟩, ⟨12, [], [], [], [(2000000, 9, 44)], [.int .i64 0, .agg [.int .i64 0, .str default, .int .i64 0, .slc 3 [], .int .i64 0]]⟩], [⟨7, [(6, .bool false)], [], [], [], []⟩, ⟨10, [], [], [], [(2000000, 9, 44)], []⟩], []⟩)], []⟩ 4) 0 ⟨[0, 1, 2, 3, 6, 7, 8, 10, 18, 25, 26, 27, 35, 36, 37, 40], [⟨6, [(26, .int .i64 0)], [], [], [(22, 9, 44)], []⟩, ⟨9, [(36, .int .i64 0)], [], [], [(22, 9, 44)], []⟩], [], []⟩ Try.f22 [f.av] [] Q = R22 f S Fr Sq Q := by kernel_rfl
theorem s22 (f : TFeFeeder) (v : AV) (O : List (List AV)) (h : R22 f (SpecOf Try.prog) (FreshOf Try.prog) (SeqOf Try.prog) (fun r O' => r = v ∧ O' = O)) : SpecOf Try.prog 22 [f.av] [] v O :=
  spec_by (boxes := []) mixed (by exact ⟨Try.call105, ⟨Try.call106, ⟨Try.call68, ⟨Try.call69, ⟨Try.call70, trivial⟩⟩⟩⟩⟩) Try.func22 Try.call22 rfl rfl rfl (Nat.le_of_ble_eq_true rfl) (r22 f (SpecOf Try.prog) (FreshOf Try.prog) (SeqOf Try.prog) _) h
end Go.Proofs.Ytbdbnpnichkcjaa
namespace Go.Proofs.Ytbdbnpnichkcjaa
open Go.RowKit
theorem c22 (f : TFeFeeder) (hn : NOK f) : Sp 22 [f.av] [] (.tup [.slc 3 ((judgeR f).1.map TFeFault.av), .int .i64 (judgeR f).2]) [] := s22 f _ _ (by
  unfold R22
  refine ⟨_, _, _, c15 f hn, fun h => ⟨?_, rfl⟩, fun h => ?_⟩
  · have h : (checkF f).2.2 ≠ 0 := by simpa using h
    rw [judgeR, if_pos h]; rfl
  have h : (checkF f).2.2 = 0 := by simpa using h
  have hf := ok_of h
  have hR : judgeR f = (judgeL f f.Nodes.length, 0) := by rw [judgeR, if_neg (by omega)]
  rw [hR]
  have hnn := hf.nn
  refine ⟨fun m vs => ∃ i : Nat, i ≤ f.Nodes.length ∧ m = f.Nodes.length - i ∧ vs = [.int .i64 i, .slc 3 ((judgeL f i).map TFeFault.av)], ⟨_, 0, by omega, rfl, rfl⟩, ?_⟩
  rintro m n es ⟨i, hi, rfl, hv⟩
  cases hv
  refine ⟨fun g => ?_, fun g => ?_⟩
  · have hlt : i < f.Nodes.length := by simpa using g
    have hjl := judgeL_len hf i hi
    have hll := lookZ_len hf hlt
    have hw : IntKind.i64.wrap ((i : Int) + 1) = ((i + 1 : Nat) : Int) := wrapN (by omega)
    refine ⟨fun m vs => ∃ k : Nat, k ≤ 3 ∧ m = 3 - k ∧ vs = [.int .i64 k, .slc 3 ((judgeL f i ++ lookZ f i k).map TFeFault.av)], ⟨_, ⟨rfl, rfl⟩, _, 0, by omega, rfl, ?_⟩, ?_⟩
    · have : lookZ f i 0 = [] := by unfold lookZ lookL; split <;> rfl
      rw [this, List.append_nil]; rfl
    rintro m n es ⟨k, hk, rfl, hv⟩
    cases hv
    refine ⟨fun g2 => ?_, fun g2 => ?_⟩
    · have hk3 : k < 3 := by simp at g2; omega
      have hwk : IntKind.i64.wrap ((k : Int) + 1) = ((k + 1 : Nat) : Int) := wrapN (by omega)
      have hlk := hll k
      -- the node is the source: nothing is looked at
      have z0 : decide ((i : Int) > 0) = false → lookZ f i (k + 1) = lookZ f i k := fun hz => by
        have : i = 0 := by simp at hz; omega
        unfold lookZ; rw [if_pos this, if_pos this]
      have same : ∀ es, es = (judgeL f i ++ lookZ f i (k + 1)).map TFeFault.av → ∃ m', m' < 3 - k ∧ ∃ j : Nat, j ≤ 3 ∧ m' = 3 - j ∧ [AV.int .i64 (IntKind.i64.wrap ((k : Int) + 1)), .slc 3 es] = [.int .i64 j, .slc 3 ((judgeL f i ++ lookZ f i j).map TFeFault.av)] := fun es he =>
        ⟨_, (by omega : 3 - (k + 1) < 3 - k), k + 1, by omega, rfl, by rw [hwk, he]⟩
      refine ⟨⟨by omega, by omega⟩, fun e2 => ⟨fun gz => ?_, fun gz => ?_⟩, fun e1 => ⟨fun gz => ?_, fun gz => ?_⟩, fun e0 => ⟨fun gz => ?_, fun gz => ?_⟩, trivial⟩
      · -- protects
        have hi0 : i ≠ 0 := by simp at gz; omega
        obtain rfl : k = 2 := by omega
        have hgo := guards_ok hf hlt
        have hgl : (guardsL f (upL f i)).length ≤ 40 := Nat.le_trans guards_len (upL_len40 hf hlt)
        have hL3 : lookZ f i 3 = lookZ f i 2 ++ protL f i := by unfold lookZ; rw [if_neg hi0, if_neg hi0]; rfl
        have hp := protL_len hf hlt
        refine ⟨_, c78 hf i hlt, fun ge => ?_, fun ge => ?_⟩
        · have hnil : guardsL f (upL f i) = [] := by simpa using ge
          have hpl : protL f i = [⟨164, i, -1⟩] := by unfold protL; rw [hnil]
          obtain ⟨a1, a2⟩ := app_ok (L := judgeL f i ++ lookZ f i 2) (by rw [List.length_append]; omega) 164 i (-1)
          refine ⟨a1, a2, ?_⟩
          repeat refine And.intro rfl ?_
          refine ⟨_, app_next _ _ _ _, same _ ?_⟩
          rw [hL3, hpl, List.append_assoc]
        · obtain ⟨g0, r, hgr⟩ : ∃ g0 r, guardsL f (upL f i) = g0 :: r := by
            cases hh : guardsL f (upL f i) with
            | nil => rw [hh] at ge; simp at ge
            | cons g0 r => exact ⟨g0, r, rfl⟩
          rw [hgr] at hgo hgl ge ⊢
          rw [List.length_cons] at hgl
          have hpl : protL f i = earthsL f i g0 r 2 := by unfold protL; rw [hgr]
          have hg0 := hgo g0 (by simp)
          have hel := earthsL_len (f := f) (i := i) (g := g0) (r := r)
          have hB : (judgeL f i ++ lookZ f i 2).length ≤ 4000 := by rw [List.length_append]; omega
          generalize hBase : judgeL f i ++ lookZ f i 2 = B at hB ⊢
          refine ⟨fun m vs => ∃ e : Nat, e ≤ 2 ∧ m = 2 - e ∧ vs = [.int .i64 e, .slc 3 ((B ++ earthsL f i g0 r e).map TFeFault.av)], ⟨_, ⟨rfl, rfl⟩, _, 0, by omega, rfl, by simp [earthsL]⟩, ?_⟩
          rintro m n es ⟨e, he, rfl, hv⟩
          cases hv
          refine ⟨fun g3 => ?_, fun g3 => ?_⟩
          · have he2 : e < 2 := by simp at g3; omega
            have hwe : IntKind.i64.wrap ((e : Int) + 1) = ((e + 1 : Nat) : Int) := wrapN (by omega)
            have hes : earthsL f i g0 r (e + 1) = earthsL f i g0 r e ++ earthL f i g0 r (decide (e = 1)) := by
              obtain rfl | rfl : e = 0 ∨ e = 1 := by omega
              · rfl
              · rfl
            have hele := hel e
            have hE : (B ++ earthsL f i g0 r e).length ≤ 5000 := by rw [List.length_append]; omega
            generalize hEq : B ++ earthsL f i g0 r e = E at hE ⊢
            refine ⟨fun vs => vs = [.bool (decide (e = 1))], ⟨⟨by omega, by omega⟩, fun q1 => ?_, fun q0 => ?_, trivial⟩, ?_⟩
            · repeat refine And.intro rfl ?_
              rw [show decide (e = 1) = true from by simp; omega]
            · repeat refine And.intro rfl ?_
              rw [show decide (e = 1) = false from by simp; omega]
            rintro b hb
            cases hb
            generalize hb : decide (e = 1) = b at hes
            have hb0 : ∀ F : Prop, F → F := fun _ h => h
            have hgav : (List.map TGuard.av (g0 :: r))[(0 : Int).toNat]? = some g0.av := rfl
            have hfb := fault_bound hf hlt b
            refine ⟨_, _, c66 hf i hlt b, g0.node, g0.fuse.Name, g0.fuse.Rated, List.map TFePoint.av g0.fuse.Points, g0.besides, ⟨by omega, rfl, hgav⟩, _, _, _, c76 g0.fuse (faultS f i b).Lo (by have := hg0.fuse.len; omega), ?_⟩
            refine ⟨fun vs => vs = [.slc 3 ((E ++ slowL f i g0 (faultS f i b)).map TFeFault.av)], ⟨fun s1 => ?_, fun s1 => ?_⟩, ?_⟩
            · have hs : slowL f i g0 (faultS f i b) = [⟨162, i, g0.node⟩] := by unfold slowL slowB; rw [s1]; rfl
              obtain ⟨a1, a2⟩ := app_ok (L := E) (by omega) 162 i g0.node
              refine ⟨g0.node, g0.fuse.Name, g0.fuse.Rated, List.map TFePoint.av g0.fuse.Points, g0.besides, ⟨by omega, rfl, hgav⟩, a1, a2, ?_⟩
              repeat refine And.intro rfl ?_
              refine ⟨_, app_next _ _ _ _, ?_⟩
              show _ = _
              rw [hs]
            · refine ⟨g0.node, g0.fuse.Name, g0.fuse.Rated, List.map TFePoint.av g0.fuse.Points, g0.besides, ⟨by omega, rfl, hgav⟩, fun s2 => ?_, fun s2 => ?_⟩
              · have hs : slowL f i g0 (faultS f i b) = [⟨162, i, g0.node⟩] := by unfold slowL slowB; rw [s1, s2]; rfl
                obtain ⟨a1, a2⟩ := app_ok (L := E) (by omega) 162 i g0.node
                refine ⟨a1, a2, ?_⟩
                repeat refine And.intro rfl ?_
                refine ⟨_, app_next _ _ _ _, ?_⟩
                show _ = _
                rw [hs]
              · have hs : slowL f i g0 (faultS f i b) = [] := by unfold slowL slowB; rw [s1, s2]; rfl
                repeat refine And.intro rfl ?_
                refine ⟨_, ⟨rfl, rfl⟩, ?_⟩
                show _ = _
                rw [hs, List.append_nil]
            rintro es hes2
            cases hes2
            have hsl := slowL_len (f := f) (i := i) (g := g0) (b := faultS f i b)
            have hdr : List.take ((((g0 :: r).map TGuard.av).length : Int).toNat - (1 : Int).toNat) (List.drop (1 : Int).toNat ((g0 :: r).map TGuard.av)) = r.map TGuard.av := by
              have : ((((g0 :: r).map TGuard.av).length : Int)).toNat - (1 : Int).toNat = r.length := by simp
              rw [this]; show List.take r.length (r.map TGuard.av) = _
              exact List.take_of_length_le (by simp)
            refine ⟨⟨by omega, by rw [List.length_map, List.length_cons]; omega, by omega, (flatG (g0 :: r)).1⟩, ?_⟩
            have hdr2 : List.take ((((List.map TGuard.av (g0 :: r)).length : Nat) : Int).toNat - 1) (List.drop 1 (List.map TGuard.av (g0 :: r))) = r.map TGuard.av := hdr
            first | rw [hdr] | rw [hdr2]
            refine ⟨_, c126 r (by omega), backX_fit fun p => ⟨rfl, rfl⟩, ?_⟩
            refine ⟨fun j vs => vs = [.slc 3 ((E ++ slowL f i g0 (faultS f i b) ++ othL i g0 (faultS f i b) (r.reverse.take j)).map TFeFault.av)], ⟨_, ⟨rfl, rfl⟩, by simp [othL]⟩, ?_, ?_⟩
            · intro j n1 n2 s3 n4 es5 n6 hx es6 hv
              obtain ⟨o, ho, hoe⟩ := backX_at hx
              cases hoe
              cases hv
              have hog := hgo o (by simp; right; exact List.mem_reverse.1 (List.mem_of_getElem? ho))
              have hol := othL_len (i := i) (g := g0) (b := faultS f i b) (l := r.reverse.take j)
              rw [List.length_take, List.length_reverse] at hol
              refine ⟨g0.node, g0.fuse.Name, g0.fuse.Rated, List.map TFePoint.av g0.fuse.Points, g0.besides, ⟨by omega, rfl, hgav⟩, _, c107 g0 o (faultS f i b) hg0 hog hfb, fun y1 => ?_, fun y1 => ?_⟩
              · obtain ⟨a1, a2⟩ := app_ok (L := E ++ slowL f i g0 (faultS f i b) ++ othL i g0 (faultS f i b) (r.reverse.take j)) (by rw [List.length_append, List.length_append]; omega) 163 i o.node
                refine ⟨a1, a2, ?_⟩
                repeat refine And.intro rfl ?_
                refine ⟨_, app_next _ _ _ _, ?_⟩
                show _ = _
                rw [othL_take ho, if_pos y1]; simp only [List.append_assoc]
              · repeat refine And.intro rfl ?_
                refine ⟨_, ⟨rfl, rfl⟩, ?_⟩
                show _ = _
                rw [othL_take ho, if_neg (by rw [y1]; simp), List.append_nil]
            · rintro es hv
              rw [backX_len, List.take_of_length_le (by simp)] at hv
              cases hv
              repeat refine And.intro rfl ?_
              refine ⟨_, ⟨rfl, rfl⟩, _, (by omega : 2 - (e + 1) < 2 - e), e + 1, by omega, rfl, ?_⟩
              rw [hwe, hes, ← List.append_assoc, hEq, earthL, List.append_assoc]
          · obtain rfl : e = 2 := by simp at g3; omega
            repeat refine And.intro rfl ?_
            refine ⟨_, ⟨rfl, rfl⟩, same _ ?_⟩
            rw [hL3, hpl, ← List.append_assoc, hBase]
      · repeat refine And.intro rfl ?_
        exact ⟨_, ⟨rfl, rfl⟩, same _ (by rw [z0 gz])⟩
      · -- drops
        have hi0 : i ≠ 0 := by simp at gz; omega
        obtain rfl : k = 1 := by omega
        have hL2 : lookZ f i 2 = lookZ f i 1 ++ dropL f i 3 := by unfold lookZ; rw [if_neg hi0, if_neg hi0]; rfl
        have hB : (judgeL f i ++ lookZ f i 1).length ≤ 4000 := by rw [List.length_append]; omega
        generalize hBase : judgeL f i ++ lookZ f i 1 = B at hB ⊢
        refine ⟨fun m vs => ∃ p : Nat, p ≤ 3 ∧ m = 3 - p ∧ vs = [.int .i64 p, .slc 3 ((B ++ dropL f i p).map TFeFault.av)], ⟨_, ⟨rfl, rfl⟩, _, 0, by omega, rfl, by simp [dropL]⟩, ?_⟩
        rintro m n es ⟨p, hp, rfl, hv⟩
        cases hv
        refine ⟨fun g3 => ?_, fun g3 => ?_⟩
        · have hp3 : p < 3 := by simp at g3; omega
          have hwp : IntKind.i64.wrap ((p : Int) + 1) = ((p + 1 : Nat) : Int) := wrapN (by omega)
          have hdl := dropL_len (f := f) (i := i) (p := p)
          refine ⟨_, c62 hf i hlt p (by omega), fun d1 => ?_, fun d1 => ?_⟩
          · obtain ⟨a1, a2⟩ := app_ok (L := B ++ dropL f i p) (by rw [List.length_append]; omega) 161 i p
            refine ⟨a1, a2, ?_⟩
            repeat refine And.intro rfl ?_
            refine ⟨_, app_next _ _ _ _, _, (by omega : 3 - (p + 1) < 3 - p), p + 1, by omega, rfl, ?_⟩
            rw [hwp, dropL, if_pos d1, List.append_assoc]
          · repeat refine And.intro rfl ?_
            refine ⟨_, ⟨rfl, rfl⟩, _, (by omega : 3 - (p + 1) < 3 - p), p + 1, by omega, rfl, ?_⟩
            rw [hwp, dropL, if_neg (by rw [d1]; simp), List.append_nil]
        · obtain rfl : p = 3 := by simp at g3; omega
          repeat refine And.intro rfl ?_
          refine ⟨_, ⟨rfl, rfl⟩, same _ ?_⟩
          rw [hL2, ← List.append_assoc, hBase]
      · repeat refine And.intro rfl ?_
        exact ⟨_, ⟨rfl, rfl⟩, same _ (by rw [z0 gz])⟩
      · -- loads
        have hi0 : i ≠ 0 := by simp at gz; omega
        obtain rfl : k = 0 := by omega
        have hL1 : lookZ f i 1 = lookZ f i 0 ++ loadL f i 3 := by unfold lookZ; rw [if_neg hi0, if_neg hi0]; rfl
        have hB : (judgeL f i ++ lookZ f i 0).length ≤ 4000 := by rw [List.length_append]; omega
        generalize hBase : judgeL f i ++ lookZ f i 0 = B at hB ⊢
        have hc := (node_ok hf hlt hi0).cable
        refine ⟨(nd f i).Name, (nd f i).Parent, (nd f i).Cable, (nd f i).Length, (nd f i).Fuse, (nd f i).Loads0.Lo, (nd f i).Loads0.Hi, (nd f i).Loads1.Lo, (nd f i).Loads1.Hi, (nd f i).Loads2.Lo, (nd f i).Loads2.Hi, ⟨by omega, rfl, nd_av hlt⟩, _, _, _, _, _, _, c74 hf i hlt hi0, ?_⟩
        refine ⟨fun m vs => ∃ p : Nat, p ≤ 3 ∧ m = 3 - p ∧ vs = [.int .i64 p, .slc 3 ((B ++ loadL f i p).map TFeFault.av)], ⟨_, ⟨rfl, rfl⟩, _, 0, by omega, rfl, by simp [loadL]⟩, ?_⟩
        rintro m n es ⟨p, hp, rfl, hv⟩
        cases hv
        refine ⟨fun g3 => ?_, fun g3 => ?_⟩
        · have hp3 : p < 3 := by simp at g3; omega
          have hwp : IntKind.i64.wrap ((p : Int) + 1) = ((p + 1 : Nat) : Int) := wrapN (by omega)
          have hdl := loadL_len (f := f) (i := i) (p := p)
          obtain ⟨a1, a2⟩ := app_ok (L := B ++ loadL f i p) (by rw [List.length_append]; omega) 160 i p
          have add : loadB f i p = true → ∃ es, (es.length = ((B ++ loadL f i p).map TFeFault.av).length + 1 ∧ List.flatMap AV.cells es = List.flatMap AV.cells ((B ++ loadL f i p).map TFeFault.av) ++ [.int .i64 160, .int .i64 i, .int .i64 p]) ∧ ∃ m', m' < 3 - p ∧ ∃ q : Nat, q ≤ 3 ∧ m' = 3 - q ∧ [AV.int .i64 (IntKind.i64.wrap ((p : Int) + 1)), .slc 3 es] = [.int .i64 q, .slc 3 ((B ++ loadL f i q).map TFeFault.av)] := fun hb =>
            ⟨_, app_next _ _ _ _, _, (by omega : 3 - (p + 1) < 3 - p), p + 1, by omega, rfl, by rw [hwp, loadL, if_pos hb, List.append_assoc]⟩
          have keep : loadB f i p = false → ∃ es : List AV, (es.length = ((B ++ loadL f i p).map TFeFault.av).length ∧ List.flatMap AV.cells es = List.flatMap AV.cells ((B ++ loadL f i p).map TFeFault.av)) ∧ ∃ m', m' < 3 - p ∧ ∃ q : Nat, q ≤ 3 ∧ m' = 3 - q ∧ [AV.int .i64 (IntKind.i64.wrap ((p : Int) + 1)), .slc 3 es] = [.int .i64 q, .slc 3 ((B ++ loadL f i q).map TFeFault.av)] := fun hb =>
            ⟨_, ⟨rfl, rfl⟩, _, (by omega : 3 - (p + 1) < 3 - p), p + 1, by omega, rfl, by rw [hwp, loadL, if_neg (by rw [hb]; simp), List.append_nil]⟩
          have q2 : p = 2 → hiP f i p = (curE f TFeNode.Loads2 i).Hi := fun h => by subst h; rfl
          have q1 : p = 1 → hiP f i p = (curE f TFeNode.Loads1 i).Hi := fun h => by subst h; rfl
          have q0 : p = 0 → hiP f i p = (curE f TFeNode.Loads0 i).Hi := fun h => by subst h; rfl
          refine ⟨⟨by omega, by omega⟩, fun e2 => ?_, fun e1 => ?_, fun e0 => ?_, trivial⟩
          · have hq := q2 (by omega)
            refine ⟨(cb f i).Name, (cb f i).Core.Lo, (cb f i).Core.Hi, (cb f i).Earth.Lo, (cb f i).Earth.Hi, (cb f i).Rated, ⟨hc.1, rfl, cb_av hf hlt hi0⟩, fun l1 => ⟨a1, a2, ?_⟩, fun l1 => ⟨fun l2 => ?_, fun l2 => ?_⟩⟩
            · repeat refine And.intro rfl ?_
              exact add (by rw [loadB, hq, l1]; rfl)
            · have hz : 0 ≤ (nd f i).Fuse := by simpa using l2
              refine ⟨(fz f i).Name, (fz f i).Rated, List.map TFePoint.av (fz f i).Points, ⟨hz, rfl, fz_av hf hlt hi0 hz⟩, fun l3 => ⟨a1, a2, ?_⟩, fun l3 => ?_⟩
              · repeat refine And.intro rfl ?_
                exact add (by rw [loadB, hq, l3, show hasF f i = true from l2]; simp)
              · repeat refine And.intro rfl ?_
                exact keep (by rw [loadB, hq, l1, l3, Bool.and_false]; rfl)
            · repeat refine And.intro rfl ?_
              exact keep (by rw [loadB, hq, l1, show hasF f i = false from l2]; rfl)
          · have hq := q1 (by omega)
            refine ⟨(cb f i).Name, (cb f i).Core.Lo, (cb f i).Core.Hi, (cb f i).Earth.Lo, (cb f i).Earth.Hi, (cb f i).Rated, ⟨hc.1, rfl, cb_av hf hlt hi0⟩, fun l1 => ⟨a1, a2, ?_⟩, fun l1 => ⟨fun l2 => ?_, fun l2 => ?_⟩⟩
            · repeat refine And.intro rfl ?_
              exact add (by rw [loadB, hq, l1]; rfl)
            · have hz : 0 ≤ (nd f i).Fuse := by simpa using l2
              refine ⟨(fz f i).Name, (fz f i).Rated, List.map TFePoint.av (fz f i).Points, ⟨hz, rfl, fz_av hf hlt hi0 hz⟩, fun l3 => ⟨a1, a2, ?_⟩, fun l3 => ?_⟩
              · repeat refine And.intro rfl ?_
                exact add (by rw [loadB, hq, l3, show hasF f i = true from l2]; simp)
              · repeat refine And.intro rfl ?_
                exact keep (by rw [loadB, hq, l1, l3, Bool.and_false]; rfl)
            · repeat refine And.intro rfl ?_
              exact keep (by rw [loadB, hq, l1, show hasF f i = false from l2]; rfl)
          · have hq := q0 (by omega)
            refine ⟨(cb f i).Name, (cb f i).Core.Lo, (cb f i).Core.Hi, (cb f i).Earth.Lo, (cb f i).Earth.Hi, (cb f i).Rated, ⟨hc.1, rfl, cb_av hf hlt hi0⟩, fun l1 => ⟨a1, a2, ?_⟩, fun l1 => ⟨fun l2 => ?_, fun l2 => ?_⟩⟩
            · repeat refine And.intro rfl ?_
              exact add (by rw [loadB, hq, l1]; rfl)
            · have hz : 0 ≤ (nd f i).Fuse := by simpa using l2
              refine ⟨(fz f i).Name, (fz f i).Rated, List.map TFePoint.av (fz f i).Points, ⟨hz, rfl, fz_av hf hlt hi0 hz⟩, fun l3 => ⟨a1, a2, ?_⟩, fun l3 => ?_⟩
              · repeat refine And.intro rfl ?_
                exact add (by rw [loadB, hq, l3, show hasF f i = true from l2]; simp)
              · repeat refine And.intro rfl ?_
                exact keep (by rw [loadB, hq, l1, l3, Bool.and_false]; rfl)
            · repeat refine And.intro rfl ?_
              exact keep (by rw [loadB, hq, l1, show hasF f i = false from l2]; rfl)
        · obtain rfl : p = 3 := by simp at g3; omega
          repeat refine And.intro rfl ?_
          refine ⟨_, ⟨rfl, rfl⟩, same _ ?_⟩
          rw [hL1, ← List.append_assoc, hBase]
      · repeat refine And.intro rfl ?_
        exact ⟨_, ⟨rfl, rfl⟩, same _ (by rw [z0 gz])⟩
    · obtain rfl : k = 3 := by simp at g2; omega
      repeat refine And.intro rfl ?_
      refine ⟨_, ⟨rfl, rfl⟩, _, (by omega : f.Nodes.length - (i + 1) < f.Nodes.length - i), i + 1, by omega, rfl, ?_⟩
      rw [hw, judgeL]
  · obtain rfl : i = f.Nodes.length := by simp at g; omega
    obtain ⟨f1, f2, f3, f4⟩ := flatF (judgeL f f.Nodes.length)
    refine ⟨by rw [cells44, f2, List.length_map]; omega, ?_, rfl⟩
    rw [cells44, agg44]; simp only [chunks, if_true, List.drop_zero, List.length_map]; rw [f4])
end Go.Proofs.Ytbdbnpnichkcjaa

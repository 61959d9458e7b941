/- Contracts: faults, fuses. -/
import Derived.Test.YtbdbnpnichkcjaaU
namespace Go.Proofs.Ytbdbnpnichkcjaa
open Go.RowKit
def backE (earth : Bool) (c : TFeCable) : TEncl := if earth then c.Earth else c.Core
def loG (f : TFeFeeder) (earth : Bool) (i : Nat) : Int := (nd f i).Length * (cb f i).Core.Lo + (nd f i).Length * (backE earth (cb f i)).Lo
def hiG (f : TFeFeeder) (earth : Bool) (i : Nat) : Int := (nd f i).Length * (cb f i).Core.Hi + (nd f i).Length * (backE earth (cb f i)).Hi
def rE (f : TFeFeeder) (l : List Nat) (earth : Bool) : TEncl := ⟨f.Source.Lo + sumL (loG f earth) l, f.Source.Hi + sumL (hiG f earth) l⟩
def faultS (f : TFeFeeder) (node : Nat) (earth : Bool) : TEncl := ⟨1000000 * f.Volts.Lo / (rE f (upL f node) earth).Hi, (1000000 * f.Volts.Hi + (rE f (upL f node) earth).Lo - 1) / (rE f (upL f node) earth).Lo⟩
theorem back_ok {c : TFeCable} (h : CabOK c) (earth : Bool) : 1 ≤ (backE earth c).Lo ∧ (backE earth c).Lo ≤ (backE earth c).Hi ∧ (backE earth c).Hi ≤ 1000000 := by
  cases earth
  · exact h.core
  · exact h.earth
theorem mulb {a b : Int} (ha : 1 ≤ a ∧ a ≤ 5000) (hb : 1 ≤ b ∧ b ≤ 1000000) : 1 ≤ a * b ∧ a * b ≤ 5000000000 := by
  have g1 : 1 * 1 ≤ a * b := Int.mul_le_mul (by omega) (by omega) (by omega) (by omega)
  have g2 : a * b ≤ 5000 * 1000000 := Int.mul_le_mul (by omega) (by omega) (by omega) (by omega)
  omega
theorem lo_bound {f : TFeFeeder} (hf : OK f) (earth : Bool) {i : Nat} (h : i < f.Nodes.length) (h0 : i ≠ 0) : 0 ≤ loG f earth i ∧ loG f earth i ≤ 10000000000 := by
  have h1 := (node_ok hf h h0).len
  have h2 := cb_ok hf h h0
  have h3 := back_ok h2 earth
  have h4 := mulb h1 (b := (cb f i).Core.Lo) (by have := h2.core; omega)
  have h5 := mulb h1 (b := (backE earth (cb f i)).Lo) (by omega)
  unfold loG; omega
theorem hi_bound {f : TFeFeeder} (hf : OK f) (earth : Bool) {i : Nat} (h : i < f.Nodes.length) (h0 : i ≠ 0) : 0 ≤ hiG f earth i ∧ hiG f earth i ≤ 10000000000 := by
  have h1 := (node_ok hf h h0).len
  have h2 := cb_ok hf h h0
  have h3 := back_ok h2 earth
  have h4 := mulb h1 (b := (cb f i).Core.Hi) (by have := h2.core; omega)
  have h5 := mulb h1 (b := (backE earth (cb f i)).Hi) (by omega)
  unfold hiG; omega
def R66 (f : TFeFeeder) (node : Int) (earth : Bool) (S : SpecF) (Fr : FuncId → List AV → Nat → List AV → Prop) (Sq : FuncId → List AV → List (List AV) → List (List AV) → Prop) (Q : AV → List (List AV) → Prop) : Prop :=
  ∃ xs0, Sq (125 : Nat) [AV.ref (0 : Nat) (0 : Nat), AV.ref (1 : Nat) (0 : Nat)] [[AV.int IntKind.i64 node], f.cs] xs0 ∧ (∀ (x3 : List AV), x3 ∈ xs0 → fitL [AV.int IntKind.i64 (0 : Int)] x3 = true ∧ AV.treeL x3 = true) ∧ ∃ (I3 : Nat → List AV → Prop), I3 (0 : Nat) [f.Source.av] ∧ (∀ (i6 : Nat) (n7 : Int), xs0[i6]? = some [AV.int IntKind.i64 n7] → ∀ (n9 n10 : Int), I3 i6 [AV.agg [AV.int IntKind.i64 n9, AV.int IntKind.i64 n10]] → ∃ s12 n13 n14 n15 n16 n17 n18 n19 n20 n21 n22, ((0 : Int) ≤ n7 ∧ (11 : Nat) = (11 : Nat) ∧ (List.map TFeNode.av f.Nodes)[n7.toNat]? = some (AV.agg [AV.str s12, AV.int IntKind.i64 n13, AV.int IntKind.i64 n14, AV.int IntKind.i64 n15, AV.int IntKind.i64 n16, AV.int IntKind.i64 n17, AV.int IntKind.i64 n18, AV.int IntKind.i64 n19, AV.int IntKind.i64 n20, AV.int IntKind.i64 n21, AV.int IntKind.i64 n22])) ∧ ∃ s24 n25 n26 n27 n28 n29, ((0 : Int) ≤ n14 ∧ (6 : Nat) = (6 : Nat) ∧ (List.map TFeCable.av f.Cables)[n14.toNat]? = some (AV.agg [AV.str s24, AV.int IntKind.i64 n25, AV.int IntKind.i64 n26, AV.int IntKind.i64 n27, AV.int IntKind.i64 n28, AV.int IntKind.i64 n29])) ∧ (earth = true → ∃ (I33 : Nat → List AV → Prop), (∃ m35, I33 m35 [AV.int IntKind.i64 (0 : Int), AV.agg [AV.int IntKind.i64 n9, AV.int IntKind.i64 n10]]) ∧ ∀ (m35 : Nat) (n36 n37 n38 : Int), I33 m35 [AV.int IntKind.i64 n36, AV.agg [AV.int IntKind.i64 n37, AV.int IntKind.i64 n38]] → (decide (n36 < (2 : Int)) = true → ((0 : Int) ≤ n36 ∧ n36 < (2 : Int)) ∧ (n36 = (1 : Int) → f.cs = f.cs ∧ [AV.bool earth] = [AV.bool earth] ∧ TEncl.z0 = TEncl.z0 ∧ [AV.str s12, AV.int IntKind.i64 n13, AV.int IntKind.i64 n14, AV.int IntKind.i64 n15, AV.int IntKind.i64 n16, AV.int IntKind.i64 n17, AV.int IntKind.i64 n18, AV.int IntKind.i64 n19, AV.int IntKind.i64 n20, AV.int IntKind.i64 n21, AV.int IntKind.i64 n22] = [AV.str s12, AV.int IntKind.i64 n13, AV.int IntKind.i64 n14, AV.int IntKind.i64 n15, AV.int IntKind.i64 n16, AV.int IntKind.i64 n17, AV.int IntKind.i64 n18, AV.int IntKind.i64 n19, AV.int IntKind.i64 n20, AV.int IntKind.i64 n21, AV.int IntKind.i64 n22] ∧ [AV.str s24, AV.int IntKind.i64 n25, AV.int IntKind.i64 n26, AV.int IntKind.i64 n27, AV.int IntKind.i64 n28, AV.int IntKind.i64 n29] = [AV.str s24, AV.int IntKind.i64 n25, AV.int IntKind.i64 n26, AV.int IntKind.i64 n27, AV.int IntKind.i64 n28, AV.int IntKind.i64 n29] ∧ ∃ k50, k50 < m35 ∧ I33 k50 [AV.int IntKind.i64 (IntKind.i64.wrap (n36 + (1 : Int))), AV.agg [AV.int IntKind.i64 (IntKind.i64.wrap (n37 + IntKind.i64.wrap (n15 * n27))), AV.int IntKind.i64 (IntKind.i64.wrap (n38 + IntKind.i64.wrap (n15 * n28)))]]) ∧ (n36 = (0 : Int) → f.cs = f.cs ∧ [AV.bool earth] = [AV.bool earth] ∧ TEncl.z0 = TEncl.z0 ∧ [AV.str s12, AV.int IntKind.i64 n13, AV.int IntKind.i64 n14, AV.int IntKind.i64 n15, AV.int IntKind.i64 n16, AV.int IntKind.i64 n17, AV.int IntKind.i64 n18, AV.int IntKind.i64 n19, AV.int IntKind.i64 n20, AV.int IntKind.i64 n21, AV.int IntKind.i64 n22] = [AV.str s12, AV.int IntKind.i64 n13, AV.int IntKind.i64 n14, AV.int IntKind.i64 n15, AV.int IntKind.i64 n16, AV.int IntKind.i64 n17, AV.int IntKind.i64 n18, AV.int IntKind.i64 n19, AV.int IntKind.i64 n20, AV.int IntKind.i64 n21, AV.int IntKind.i64 n22] ∧ [AV.str s24, AV.int IntKind.i64 n25, AV.int IntKind.i64 n26, AV.int IntKind.i64 n27, AV.int IntKind.i64 n28, AV.int IntKind.i64 n29] = [AV.str s24, AV.int IntKind.i64 n25, AV.int IntKind.i64 n26, AV.int IntKind.i64 n27, AV.int IntKind.i64 n28, AV.int IntKind.i64 n29] ∧ ∃ k51, k51 < m35 ∧ I33 k51 [AV.int IntKind.i64 (IntKind.i64.wrap (n36 + (1 : Int))), AV.agg [AV.int IntKind.i64 (IntKind.i64.wrap (n37 + IntKind.i64.wrap (n15 * n25))), AV.int IntKind.i64 (IntKind.i64.wrap (n38 + IntKind.i64.wrap (n15 * n26)))]]) ∧ True) ∧ (decide (n36 < (2 : Int)) = false → f.cs = f.cs ∧ [AV.bool earth] = [AV.bool earth] ∧ TEncl.z0 = TEncl.z0 ∧ I3 (i6 + (1 : Nat)) [AV.agg [AV.int IntKind.i64 n37, AV.int IntKind.i64 n38]])) ∧ (earth = false → ∃ (I33 : Nat → List AV → Prop), (∃ m35, I33 m35 [AV.int IntKind.i64 (0 : Int), AV.agg [AV.int IntKind.i64 n9, AV.int IntKind.i64 n10]]) ∧ ∀ (m35 : Nat) (n36 n37 n38 : Int), I33 m35 [AV.int IntKind.i64 n36, AV.agg [AV.int IntKind.i64 n37, AV.int IntKind.i64 n38]] → (decide (n36 < (2 : Int)) = true → ((0 : Int) ≤ n36 ∧ n36 < (2 : Int)) ∧ (n36 = (1 : Int) → f.cs = f.cs ∧ [AV.bool earth] = [AV.bool earth] ∧ TEncl.z0 = TEncl.z0 ∧ [AV.str s12, AV.int IntKind.i64 n13, AV.int IntKind.i64 n14, AV.int IntKind.i64 n15, AV.int IntKind.i64 n16, AV.int IntKind.i64 n17, AV.int IntKind.i64 n18, AV.int IntKind.i64 n19, AV.int IntKind.i64 n20, AV.int IntKind.i64 n21, AV.int IntKind.i64 n22] = [AV.str s12, AV.int IntKind.i64 n13, AV.int IntKind.i64 n14, AV.int IntKind.i64 n15, AV.int IntKind.i64 n16, AV.int IntKind.i64 n17, AV.int IntKind.i64 n18, AV.int IntKind.i64 n19, AV.int IntKind.i64 n20, AV.int IntKind.i64 n21, AV.int IntKind.i64 n22] ∧ [AV.str s24, AV.int IntKind.i64 n25, AV.int IntKind.i64 n26, AV.int IntKind.i64 n27, AV.int IntKind.i64 n28, AV.int IntKind.i64 n29] = [AV.str s24, AV.int IntKind.i64 n25, AV.int IntKind.i64 n26, AV.int IntKind.i64 n27, AV.int IntKind.i64 n28, AV.int IntKind.i64 n29] ∧ ∃ k50, k50 < m35 ∧ I33 k50 [AV.int IntKind.i64 (IntKind.i64.wrap (n36 + (1 : Int))), AV.agg [AV.int IntKind.i64 (IntKind.i64.wrap (n37 + IntKind.i64.wrap (n15 * n25))), AV.int IntKind.i64 (IntKind.i64.wrap (n38 + IntKind.i64.wrap (n15 * n26)))]]) ∧ (n36 = (0 : Int) → f.cs = f.cs ∧ [AV.bool earth] = [AV.bool earth] ∧ TEncl.z0 = TEncl.z0 ∧ [AV.str s12, AV.int IntKind.i64 n13, AV.int IntKind.i64 n14, AV.int IntKind.i64 n15, AV.int IntKind.i64 n16, AV.int IntKind.i64 n17, AV.int IntKind.i64 n18, AV.int IntKind.i64 n19, AV.int IntKind.i64 n20, AV.int IntKind.i64 n21, AV.int IntKind.i64 n22] = [AV.str s12, AV.int IntKind.i64 n13, AV.int IntKind.i64 n14, AV.int IntKind.i64 n15, AV.int IntKind.i64 n16, AV.int IntKind.i64 n17, AV.int IntKind.i64 n18, AV.int IntKind.i64 n19, AV.int IntKind.i64 n20, AV.int IntKind.i64 n21, AV.int IntKind.i64 n22] ∧ [AV.str s24, AV.int IntKind.i64 n25, AV.int IntKind.i64 n26, AV.int IntKind.i64 n27, AV.int IntKind.i64 n28, AV.int IntKind.i64 n29] = [AV.str s24, AV.int IntKind.i64 n25, AV.int IntKind.i64 n26, AV.int IntKind.i64 n27, AV.int IntKind.i64 n28, AV.int IntKind.i64 n29] ∧ ∃ k51, k51 < m35 ∧ I33 k51 [AV.int IntKind.i64 (IntKind.i64.wrap (n36 + (1 : Int))), AV.agg [AV.int IntKind.i64 (IntKind.i64.wrap (n37 + IntKind.i64.wrap (n15 * n25))), AV.int IntKind.i64 (IntKind.i64.wrap (n38 + IntKind.i64.wrap (n15 * n26)))]]) ∧ True) ∧ (decide (n36 < (2 : Int)) = false → f.cs = f.cs ∧ [AV.bool earth] = [AV.bool earth] ∧ TEncl.z0 = TEncl.z0 ∧ I3 (i6 + (1 : Nat)) [AV.agg [AV.int IntKind.i64 n37, AV.int IntKind.i64 n38]]))) ∧ ∀ (n6 n7 : Int), I3 xs0.length [AV.agg [AV.int IntKind.i64 n6, AV.int IntKind.i64 n7]] → n7 ≠ (0 : Int) ∧ n6 ≠ (0 : Int) ∧ Q (AV.agg [AV.int IntKind.i64 (IntKind.i64.wrap ((IntKind.i64.wrap ((1000000 : Int) * f.Volts.Lo)).tdiv n7)), AV.int IntKind.i64 (IntKind.i64.wrap ((IntKind.i64.wrap (IntKind.i64.wrap (IntKind.i64.wrap ((1000000 : Int) * f.Volts.Hi) + n6) - (1 : Int))).tdiv n6))]) []
theorem r66 (f : TFeFeeder) (node : Int) (earth : Bool) (S : SpecF) (Fr : FuncId → List AV → Nat → List AV → Prop) (Sq : FuncId → List AV → List (List AV) → List (List AV) → Prop) (Q : AV → List (List AV) → Prop) : awpF Try.prog (mkS Try.prog S Fr Sq ⟨[], [], [], [(104, ⟨[0, 1, 2, 3, 4], [], [], []⟩)], []⟩ 4) 0 ⟨[0, 1, 2, 3, 5, 6, 7, 8, 9, 10, 12, 17, 18, 40, 41, 42], [⟨4, [], [], [(7, .agg [.int .i64 0, .int .i64 0])], [], [.int .i64 0]⟩, ⟨7, [(41, .int .i64 0)], [], [(2000007, .agg [.int .i64 0, .int .i64 0])], [], []⟩], [], []⟩ Try.f66 [f.av, .int .i64 node, .bool earth] [] Q = R66 f node earth S Fr Sq Q := by kernel_rfl
theorem s66 (f : TFeFeeder) (node : Int) (earth : Bool) (v : AV) (O : List (List AV)) (h : R66 f node earth (SpecOf Try.prog) (FreshOf Try.prog) (SeqOf Try.prog) (fun r O' => r = v ∧ O' = O)) : SpecOf Try.prog 66 [f.av, .int .i64 node, .bool earth] [] v O :=
  spec_by (boxes := []) mixed (by exact ⟨Try.call104, trivial⟩) Try.func66 Try.call66 rfl rfl rfl (Nat.le_of_ble_eq_true rfl) (r66 f node earth (SpecOf Try.prog) (FreshOf Try.prog) (SeqOf Try.prog) _) h
theorem c66 {f : TFeFeeder} (hf : OK f) (node : Nat) (h : node < f.Nodes.length) (earth : Bool) : Sp 66 [f.av, .int .i64 node, .bool earth] [] (faultS f node earth).av [] := s66 f node earth _ _ (by
  unfold R66
  refine ⟨_, c125 hf node h, fit_up, ?_⟩
  have tl := fun k => take_bound (g := loG f earth) hf h (by decide) (fun i hi h0 => lo_bound hf earth hi h0) k
  have th := fun k => take_bound (g := hiG f earth) hf h (by decide) (fun i hi h0 => hi_bound hf earth hi h0) k
  have hsrc := hf.source
  refine ⟨fun i vs => vs = [(rE f ((upL f node).take i) earth).av], ?_, ?_, ?_⟩
  · show [f.Source.av] = _
    simp [rE, sumL, TEncl.av, TEncl.cs]
  · intro i n hi n1 n2 hv
    obtain ⟨x, rfl, hx⟩ := up_at hi
    cases hv
    obtain ⟨h0, hlt, _⟩ := upL_mem hf h (List.mem_of_getElem? hx)
    have hc := (node_ok hf hlt h0).cable
    have hb := cb_ok hf hlt h0
    have hlen := (node_ok hf hlt h0).len
    have hbk := back_ok hb earth
    have m1 := mulb hlen (b := (cb f x).Core.Lo) (by have := hb.core; omega)
    have m2 := mulb hlen (b := (cb f x).Core.Hi) (by have := hb.core; omega)
    have m3 := mulb hlen (b := (backE earth (cb f x)).Lo) (by omega)
    have m4 := mulb hlen (b := (backE earth (cb f x)).Hi) (by omega)
    have t1 := tl i; have t2 := th i
    have nxt : rE f ((upL f node).take (i + 1)) earth = ⟨(rE f ((upL f node).take i) earth).Lo + (nd f x).Length * (cb f x).Core.Lo + (nd f x).Length * (backE earth (cb f x)).Lo, (rE f ((upL f node).take i) earth).Hi + (nd f x).Length * (cb f x).Core.Hi + (nd f x).Length * (backE earth (cb f x)).Hi⟩ := by
      simp only [rE, sumL_take hx, loG, hiG, Int.add_assoc]
    have b1 : 0 ≤ (rE f ((upL f node).take i) earth).Lo ∧ (rE f ((upL f node).take i) earth).Lo ≤ 500000000000 := by simp only [rE]; omega
    have b2 : 0 ≤ (rE f ((upL f node).take i) earth).Hi ∧ (rE f ((upL f node).take i) earth).Hi ≤ 500000000000 := by simp only [rE]; omega
    generalize hE : rE f ((upL f node).take i) earth = E at nxt b1 b2 ⊢
    let st : Nat → TEncl := fun k => if k = 0 then E else if k = 1 then ⟨E.Lo + (nd f x).Length * (cb f x).Core.Lo, E.Hi + (nd f x).Length * (cb f x).Core.Hi⟩ else rE f ((upL f node).take (i + 1)) earth
    have s1 : [AV.int .i64 (IntKind.i64.wrap ((0 : Int) + 1)), .agg [.int .i64 (IntKind.i64.wrap (E.Lo + IntKind.i64.wrap ((nd f x).Length * (cb f x).Core.Lo))), .int .i64 (IntKind.i64.wrap (E.Hi + IntKind.i64.wrap ((nd f x).Length * (cb f x).Core.Hi)))]] = [.int .i64 ((1 : Nat) : Int), (st 1).av] := by
      rw [i64 (n := (nd f x).Length * (cb f x).Core.Lo) (by omega), i64 (n := (nd f x).Length * (cb f x).Core.Hi) (by omega), i64 (n := E.Lo + _) (by omega), i64 (n := E.Hi + _) (by omega)]; rfl
    have s2 : [AV.int .i64 (IntKind.i64.wrap ((1 : Int) + 1)), .agg [.int .i64 (IntKind.i64.wrap (E.Lo + (nd f x).Length * (cb f x).Core.Lo + IntKind.i64.wrap ((nd f x).Length * (backE earth (cb f x)).Lo))), .int .i64 (IntKind.i64.wrap (E.Hi + (nd f x).Length * (cb f x).Core.Hi + IntKind.i64.wrap ((nd f x).Length * (backE earth (cb f x)).Hi)))]] = [.int .i64 ((2 : Nat) : Int), (st 2).av] := by
      rw [i64 (n := (nd f x).Length * (backE earth (cb f x)).Lo) (by omega), i64 (n := (nd f x).Length * (backE earth (cb f x)).Hi) (by omega), i64 (n := _ + (nd f x).Length * (backE earth (cb f x)).Lo) (by omega), i64 (n := _ + (nd f x).Length * (backE earth (cb f x)).Hi) (by omega)]
      show _ = [_, (rE f ((upL f node).take (i + 1)) earth).av]
      rw [nxt]; rfl
    refine ⟨(nd f x).Name, (nd f x).Parent, (nd f x).Cable, (nd f x).Length, (nd f x).Fuse, (nd f x).Loads0.Lo, (nd f x).Loads0.Hi, (nd f x).Loads1.Lo, (nd f x).Loads1.Hi, (nd f x).Loads2.Lo, (nd f x).Loads2.Hi, ⟨by omega, rfl, nd_av hlt⟩, (cb f x).Name, (cb f x).Core.Lo, (cb f x).Core.Hi, (cb f x).Earth.Lo, (cb f x).Earth.Hi, (cb f x).Rated, ⟨hc.1, rfl, cb_av hf hlt h0⟩, fun he => ?_, fun he => ?_⟩ <;> subst he
    all_goals
      refine ⟨fun m vs => ∃ k : Nat, k ≤ 2 ∧ m = 2 - k ∧ vs = [.int .i64 k, (st k).av], ⟨_, 0, by omega, rfl, rfl⟩, ?_⟩
      rintro m n n1 n2 ⟨k, hk, rfl, hv⟩
      cases hv
      refine ⟨fun g => ⟨⟨by omega, by simpa using g⟩, fun g2 => ⟨rfl, rfl, rfl, rfl, rfl, 0, ?_, 2, by omega, rfl, ?_⟩, fun g2 => ⟨rfl, rfl, rfl, rfl, rfl, 1, ?_, 1, by omega, rfl, ?_⟩, trivial⟩, fun g => ⟨rfl, rfl, rfl, ?_⟩⟩
      · omega
      · obtain rfl : k = 1 := by omega
        exact s2
      · omega
      · obtain rfl : k = 0 := by omega
        exact s1
      · obtain rfl : k = 2 := by simp at g; omega
        rfl
  · intro n1 n2 hv
    rw [List.length_map, List.take_length] at hv
    cases hv
    have t1 := tl (upL f node).length; have t2 := th (upL f node).length
    rw [List.take_length] at t1 t2
    have hv := hf.volts
    have b1 : 1 ≤ (rE f (upL f node) earth).Lo ∧ (rE f (upL f node) earth).Lo ≤ 500000000000 := by simp only [rE]; omega
    have b2 : 1 ≤ (rE f (upL f node) earth).Hi ∧ (rE f (upL f node) earth).Hi ≤ 500000000000 := by simp only [rE]; omega
    have g1 : 0 ≤ 1000000 * f.Volts.Lo / (rE f (upL f node) earth).Hi ∧ 1000000 * f.Volts.Lo / (rE f (upL f node) earth).Hi ≤ 1000000 * f.Volts.Lo := ⟨Int.ediv_nonneg (by omega) (by omega), Int.ediv_le_self _ (by omega)⟩
    have g2 : 0 ≤ (1000000 * f.Volts.Hi + (rE f (upL f node) earth).Lo - 1) / (rE f (upL f node) earth).Lo ∧ (1000000 * f.Volts.Hi + (rE f (upL f node) earth).Lo - 1) / (rE f (upL f node) earth).Lo ≤ 1000000 * f.Volts.Hi + (rE f (upL f node) earth).Lo - 1 := ⟨Int.ediv_nonneg (by omega) (by omega), Int.ediv_le_self _ (by omega)⟩
    refine ⟨by omega, by omega, ?_, rfl⟩
    rw [i64 (n := 1000000 * f.Volts.Lo) (by omega), i64 (n := 1000000 * f.Volts.Hi) (by omega), i64 (n := 1000000 * f.Volts.Hi + (rE f (upL f node) earth).Lo) (by omega), i64 (n := 1000000 * f.Volts.Hi + (rE f (upL f node) earth).Lo - 1) (by omega),
      Int.tdiv_eq_ediv_of_nonneg (by omega), Int.tdiv_eq_ediv_of_nonneg (by omega), i64 (n := 1000000 * f.Volts.Lo / (rE f (upL f node) earth).Hi) (by omega), i64 (n := (1000000 * f.Volts.Hi + (rE f (upL f node) earth).Lo - 1) / (rE f (upL f node) earth).Lo) (by omega)]
    rfl)
def dropR (f : TFeFeeder) (node p : Int) : Int × Int := if askedS f node ≠ 0 then (0, askedS f node) else if !inB p 0 2 then (0, 7) else (dropS f node.toNat p, 0)
def faultR (f : TFeFeeder) (node : Int) (earth : Bool) : TEncl × Int := if innerS f node ≠ 0 then (.zero, innerS f node) else (faultS f node.toNat earth, 0)
def neutN (f : TFeFeeder) (i : Nat) : Int := neutS (curE f TFeNode.Loads0 i) (curE f TFeNode.Loads1 i) (curE f TFeNode.Loads2 i)
def neutR (f : TFeFeeder) (node : Int) : Int × Int := if innerS f node ≠ 0 then (0, innerS f node) else (neutN f node.toNat, 0)
def R18 (f : TFeFeeder) (node : Int) (phase : Int) (S : SpecF) (Fr : FuncId → List AV → Nat → List AV → Prop) (Sq : FuncId → List AV → List (List AV) → List (List AV) → Prop) (Q : AV → List (List AV) → Prop) : Prop :=
  ∃ n0, S (61 : Nat) [f.av, AV.int IntKind.i64 node] [] (AV.int IntKind.i64 n0) [] ∧ ((n0 != (0 : Int)) = true → Q (AV.tup [AV.int IntKind.i64 (0 : Int), AV.int IntKind.i64 n0]) []) ∧ ((n0 != (0 : Int)) = false → ∃ b4, S (43 : Nat) [AV.int IntKind.i64 phase, AV.int IntKind.i64 (0 : Int), AV.int IntKind.i64 (2 : Int)] [] (AV.bool b4) [] ∧ ((!b4) = true → Q (AV.tup [AV.int IntKind.i64 (0 : Int), AV.int IntKind.i64 (7 : Int)]) []) ∧ ((!b4) = false → ∃ n8, S (62 : Nat) [f.av, AV.int IntKind.i64 node, AV.int IntKind.i64 phase] [] (AV.int IntKind.i64 n8) [] ∧ Q (AV.tup [AV.int IntKind.i64 n8, AV.int IntKind.i64 (0 : Int)]) []))
theorem r18 (f : TFeFeeder) (node : Int) (phase : Int) (S : SpecF) (Fr : FuncId → List AV → Nat → List AV → Prop) (Sq : FuncId → List AV → List (List AV) → List (List AV) → Prop) (Q : AV → List (List AV) → Prop) : awpF Try.prog (mkS Try.prog S Fr Sq ⟨[], [], [], [], []⟩ 0) 0 ⟨[0, 1, 2, 3, 6, 7, 8, 12, 16], [], [], []⟩ Try.f18 [f.av, .int .i64 node, .int .i64 phase] [] Q = R18 f node phase S Fr Sq Q := by kernel_rfl
theorem s18 (f : TFeFeeder) (node : Int) (phase : Int) (v : AV) (O : List (List AV)) (h : R18 f node phase (SpecOf Try.prog) (FreshOf Try.prog) (SeqOf Try.prog) (fun r O' => r = v ∧ O' = O)) : SpecOf Try.prog 18 [f.av, .int .i64 node, .int .i64 phase] [] v O :=
  spec_by (boxes := []) mixed (by exact trivial) Try.func18 Try.call18 rfl rfl rfl (Nat.le_of_ble_eq_true rfl) (r18 f node phase (SpecOf Try.prog) (FreshOf Try.prog) (SeqOf Try.prog) _) h
theorem c18 (f : TFeFeeder) (hn : NOK f) (node p : Int) : Sp 18 [f.av, .int .i64 node, .int .i64 p] [] (.tup [.int .i64 (dropR f node p).1, .int .i64 (dropR f node p).2]) [] := s18 f node p _ _ (by
  refine ⟨_, c61 f hn node, fun h => ⟨?_, rfl⟩, fun h => ⟨_, c43 _ _ _, fun h2 => ⟨?_, rfl⟩, fun h2 => ?_⟩⟩
  · have h : askedS f node ≠ 0 := by simpa using h
    rw [dropR, if_pos h]
  · have h : ¬ askedS f node ≠ 0 := by simpa using h
    rw [dropR, if_neg h, if_pos h2]
  · have h : askedS f node = 0 := by simpa using h
    have h2 : ¬ (!inB p 0 2) = true := by rw [h2]; simp
    obtain ⟨hf, k, rfl, hk⟩ := asked_ok h
    have hp := inB_iff.1 (by simpa using h2 : inB p 0 2 = true)
    rw [dropR, if_neg (by omega), if_neg h2]
    exact ⟨_, c62 hf k hk p (by omega), rfl, rfl⟩)
def R20 (f : TFeFeeder) (node : Int) (earth : Bool) (S : SpecF) (Fr : FuncId → List AV → Nat → List AV → Prop) (Sq : FuncId → List AV → List (List AV) → List (List AV) → Prop) (Q : AV → List (List AV) → Prop) : Prop :=
  ∃ n0, S (65 : Nat) [f.av, AV.int IntKind.i64 node] [] (AV.int IntKind.i64 n0) [] ∧ ((n0 != (0 : Int)) = true → Q (AV.tup [TEncl.zero.av, AV.int IntKind.i64 n0]) []) ∧ ((n0 != (0 : Int)) = false → ∃ n4 n5, S (66 : Nat) [f.av, AV.int IntKind.i64 node, AV.bool earth] [] (AV.agg [AV.int IntKind.i64 n4, AV.int IntKind.i64 n5]) [] ∧ Q (AV.tup [AV.agg [AV.int IntKind.i64 n4, AV.int IntKind.i64 n5], AV.int IntKind.i64 (0 : Int)]) [])
theorem r20 (f : TFeFeeder) (node : Int) (earth : Bool) (S : SpecF) (Fr : FuncId → List AV → Nat → List AV → Prop) (Sq : FuncId → List AV → List (List AV) → List (List AV) → Prop) (Q : AV → List (List AV) → Prop) : awpF Try.prog (mkS Try.prog S Fr Sq ⟨[], [], [], [], []⟩ 0) 0 ⟨[0, 1, 2, 3, 6, 7, 8, 13], [], [], []⟩ Try.f20 [f.av, .int .i64 node, .bool earth] [] Q = R20 f node earth S Fr Sq Q := by kernel_rfl
theorem s20 (f : TFeFeeder) (node : Int) (earth : Bool) (v : AV) (O : List (List AV)) (h : R20 f node earth (SpecOf Try.prog) (FreshOf Try.prog) (SeqOf Try.prog) (fun r O' => r = v ∧ O' = O)) : SpecOf Try.prog 20 [f.av, .int .i64 node, .bool earth] [] v O :=
  spec_by (boxes := []) mixed (by exact trivial) Try.func20 Try.call20 rfl rfl rfl (Nat.le_of_ble_eq_true rfl) (r20 f node earth (SpecOf Try.prog) (FreshOf Try.prog) (SeqOf Try.prog) _) h
theorem c20 (f : TFeFeeder) (hn : NOK f) (node : Int) (earth : Bool) : Sp 20 [f.av, .int .i64 node, .bool earth] [] (.tup [(faultR f node earth).1.av, .int .i64 (faultR f node earth).2]) [] := s20 f node earth _ _ (by
  refine ⟨_, c65 f hn node, fun h => ⟨?_, rfl⟩, fun h => ?_⟩
  · have h : innerS f node ≠ 0 := by simpa using h
    rw [faultR, if_pos h]
  · have h : innerS f node = 0 := by simpa using h
    obtain ⟨hf, k, rfl, hk, h0⟩ := inner_ok h
    rw [faultR, if_neg (by omega)]
    exact ⟨_, _, c66 hf k hk earth, rfl, rfl⟩)
def R26 (f : TFeFeeder) (node : Int) (S : SpecF) (Fr : FuncId → List AV → Nat → List AV → Prop) (Sq : FuncId → List AV → List (List AV) → List (List AV) → Prop) (Q : AV → List (List AV) → Prop) : Prop :=
  ∃ n0, S (65 : Nat) [f.av, AV.int IntKind.i64 node] [] (AV.int IntKind.i64 n0) [] ∧ ((n0 != (0 : Int)) = true → Q (AV.tup [AV.int IntKind.i64 (0 : Int), AV.int IntKind.i64 n0]) []) ∧ ((n0 != (0 : Int)) = false → ∃ n4 n5 n6 n7 n8 n9, S (74 : Nat) [f.av, AV.int IntKind.i64 node] [] (AV.agg [AV.int IntKind.i64 n4, AV.int IntKind.i64 n5, AV.int IntKind.i64 n6, AV.int IntKind.i64 n7, AV.int IntKind.i64 n8, AV.int IntKind.i64 n9]) [] ∧ ∃ n11, S (75 : Nat) [AV.agg [AV.int IntKind.i64 n4, AV.int IntKind.i64 n5, AV.int IntKind.i64 n6, AV.int IntKind.i64 n7, AV.int IntKind.i64 n8, AV.int IntKind.i64 n9]] [] (AV.int IntKind.i64 n11) [] ∧ Q (AV.tup [AV.int IntKind.i64 n11, AV.int IntKind.i64 (0 : Int)]) [])
theorem r26 (f : TFeFeeder) (node : Int) (S : SpecF) (Fr : FuncId → List AV → Nat → List AV → Prop) (Sq : FuncId → List AV → List (List AV) → List (List AV) → Prop) (Q : AV → List (List AV) → Prop) : awpF Try.prog (mkS Try.prog S Fr Sq ⟨[], [], [], [], []⟩ 0) 0 ⟨[0, 1, 2, 4, 5, 6, 11], [], [], []⟩ Try.f26 [f.av, .int .i64 node] [] Q = R26 f node S Fr Sq Q := by kernel_rfl
theorem s26 (f : TFeFeeder) (node : Int) (v : AV) (O : List (List AV)) (h : R26 f node (SpecOf Try.prog) (FreshOf Try.prog) (SeqOf Try.prog) (fun r O' => r = v ∧ O' = O)) : SpecOf Try.prog 26 [f.av, .int .i64 node] [] v O :=
  spec_by (boxes := []) mixed (by exact trivial) Try.func26 Try.call26 rfl rfl rfl (Nat.le_of_ble_eq_true rfl) (r26 f node (SpecOf Try.prog) (FreshOf Try.prog) (SeqOf Try.prog) _) h
theorem c26 (f : TFeFeeder) (hn : NOK f) (node : Int) : Sp 26 [f.av, .int .i64 node] [] (.tup [.int .i64 (neutR f node).1, .int .i64 (neutR f node).2]) [] := s26 f node _ _ (by
  refine ⟨_, c65 f hn node, fun h => ⟨?_, rfl⟩, fun h => ?_⟩
  · have h : innerS f node ≠ 0 := by simpa using h
    rw [neutR, if_pos h]
  · have h : innerS f node = 0 := by simpa using h
    obtain ⟨hf, k, rfl, hk, h0⟩ := inner_ok h
    rw [neutR, if_neg (by omega)]
    exact ⟨_, _, _, _, _, _, c74 hf k hk h0, _, c75 _ _ _ (curE_ok hf _ (.inl rfl) k) (curE_ok hf _ (.inr (.inl rfl)) k) (curE_ok hf _ (.inr (.inr rfl)) k), rfl, rfl⟩)
def curR (f : TFeFeeder) (node : Int) : List AV × Int := if innerS f node ≠ 0 then (six ⟨0, 0⟩ ⟨0, 0⟩ ⟨0, 0⟩, innerS f node) else (cur3 f node.toNat, 0)
def R24 (f : TFeFeeder) (node : Int) (S : SpecF) (Fr : FuncId → List AV → Nat → List AV → Prop) (Sq : FuncId → List AV → List (List AV) → List (List AV) → Prop) (Q : AV → List (List AV) → Prop) : Prop :=
  ∃ n0, S (65 : Nat) [f.av, AV.int IntKind.i64 node] [] (AV.int IntKind.i64 n0) [] ∧ ((n0 != (0 : Int)) = true → Q (AV.tup [AV.agg [AV.int IntKind.i64 (0 : Int), AV.int IntKind.i64 (0 : Int), AV.int IntKind.i64 (0 : Int), AV.int IntKind.i64 (0 : Int), AV.int IntKind.i64 (0 : Int), AV.int IntKind.i64 (0 : Int)], AV.int IntKind.i64 n0]) []) ∧ ((n0 != (0 : Int)) = false → ∃ n4 n5 n6 n7 n8 n9, S (74 : Nat) [f.av, AV.int IntKind.i64 node] [] (AV.agg [AV.int IntKind.i64 n4, AV.int IntKind.i64 n5, AV.int IntKind.i64 n6, AV.int IntKind.i64 n7, AV.int IntKind.i64 n8, AV.int IntKind.i64 n9]) [] ∧ Q (AV.tup [AV.agg [AV.int IntKind.i64 n4, AV.int IntKind.i64 n5, AV.int IntKind.i64 n6, AV.int IntKind.i64 n7, AV.int IntKind.i64 n8, AV.int IntKind.i64 n9], AV.int IntKind.i64 (0 : Int)]) [])
theorem r24 (f : TFeFeeder) (node : Int) (S : SpecF) (Fr : FuncId → List AV → Nat → List AV → Prop) (Sq : FuncId → List AV → List (List AV) → List (List AV) → Prop) (Q : AV → List (List AV) → Prop) : awpF Try.prog (mkS Try.prog S Fr Sq ⟨[], [], [], [], []⟩ 0) 0 ⟨[0, 1, 2, 4, 5, 6, 11], [], [], []⟩ Try.f24 [f.av, .int .i64 node] [] Q = R24 f node S Fr Sq Q := by kernel_rfl
theorem s24 (f : TFeFeeder) (node : Int) (v : AV) (O : List (List AV)) (h : R24 f node (SpecOf Try.prog) (FreshOf Try.prog) (SeqOf Try.prog) (fun r O' => r = v ∧ O' = O)) : SpecOf Try.prog 24 [f.av, .int .i64 node] [] v O :=
  spec_by (boxes := []) mixed (by exact trivial) Try.func24 Try.call24 rfl rfl rfl (Nat.le_of_ble_eq_true rfl) (r24 f node (SpecOf Try.prog) (FreshOf Try.prog) (SeqOf Try.prog) _) h
theorem c24 (f : TFeFeeder) (hn : NOK f) (node : Int) : Sp 24 [f.av, .int .i64 node] [] (.tup [.agg (curR f node).1, .int .i64 (curR f node).2]) [] := s24 f node _ _ (by
  refine ⟨_, c65 f hn node, fun h => ⟨?_, rfl⟩, fun h => ?_⟩
  · have h : innerS f node ≠ 0 := by simpa using h
    rw [curR, if_pos h]; rfl
  · have h : innerS f node = 0 := by simpa using h
    obtain ⟨hf, k, rfl, hk, h0⟩ := inner_ok h
    rw [curR, if_neg (by omega)]
    exact ⟨_, _, _, _, _, _, c74 hf k hk h0, rfl, rfl⟩)
def backX {α : Type} (av : α → AV) (l : List α) : List (List AV) := l.reverse.mapIdx fun i p => [.int .i64 ((l.length : Int) - 1 - i), av p]
theorem backX_get {α : Type} {av : α → AV} {l : List α} {i : Nat} {p : α} (h : l.reverse[i]? = some p) : (backX av l)[i]? = some [.int .i64 ((l.length : Int) - 1 - i), av p] := by
  unfold backX; rw [List.getElem?_mapIdx, h]; rfl
theorem backX_len {α : Type} {av : α → AV} {l : List α} : (backX av l).length = l.length := by simp [backX]
theorem backX_at {α : Type} {av : α → AV} {l : List α} {i : Nat} {v : List AV} (h : (backX av l)[i]? = some v) : ∃ p, l.reverse[i]? = some p ∧ v = [.int .i64 ((l.length : Int) - 1 - i), av p] := by
  unfold backX at h; rw [List.getElem?_mapIdx] at h
  obtain ⟨p, hp, rfl⟩ := Option.map_eq_some_iff.1 h
  exact ⟨p, hp, rfl⟩
theorem backX_fit {α : Type} {av : α → AV} {l : List α} {sk : AV} (h : ∀ p, fitL [.int .i64 0, sk] [.int .i64 0, av p] = true ∧ (av p).tree = true) : ∀ v ∈ backX av l, fitL [.int .i64 0, sk] v = true ∧ AV.treeL v = true := by
  intro v hv
  obtain ⟨i, hi⟩ := List.mem_iff_getElem?.1 hv
  obtain ⟨p, _, rfl⟩ := backX_at hi
  have := h p
  exact ⟨this.1, by simp only [AV.treeL, AV.tree, this.2, Bool.and_true, Bool.true_and]⟩
theorem find_at {α : Type} {q : α → Bool} {l : List α} {i : Nat} {p : α} (h : l[i]? = some p) : (l.drop i).find? q = if q p then some p else (l.drop (i + 1)).find? q := by
  obtain ⟨hi, rfl⟩ := List.getElem?_eq_some_iff.1 h
  rw [List.drop_eq_getElem_cons hi, List.find?_cons]
  split <;> simp_all
theorem rev_get {α : Type} {l : List α} {i : Nat} (h : i < l.length) : ∃ p, l.reverse[i]? = some p ∧ l[l.length - 1 - i]? = some p := by
  rw [List.getElem?_reverse h, List.getElem?_eq_getElem (by omega)]
  exact ⟨_, rfl, rfl⟩
def RY129 (v0 : List TFePoint) (l : Nat) (Y : Nat → List AV → Prop) (len : Nat) : Prop :=
  ∃ (I0 : Nat → Nat → List AV → Prop), (∃ m2, I0 m2 (0 : Nat) [AV.int IntKind.i64 (IntKind.i64.wrap ((↑(List.map TFePoint.av v0).length : Int) - (1 : Int)))]) ∧ ∀ (m2 i3 : Nat) (n4 : Int), I0 m2 i3 [AV.int IntKind.i64 n4] → (decide (n4 ≥ (0 : Int)) = true → ∃ n8 n9 n10, ((0 : Int) ≤ n4 ∧ (3 : Nat) = (3 : Nat) ∧ (List.map TFePoint.av v0)[n4.toNat]? = some (AV.agg [AV.int IntKind.i64 n8, AV.int IntKind.i64 n9, AV.int IntKind.i64 n10])) ∧ l = l ∧ Y i3 [AV.int IntKind.i64 n4, AV.agg [AV.int IntKind.i64 n8, AV.int IntKind.i64 n9, AV.int IntKind.i64 n10]] ∧ (((19 : Nat) = (19 : Nat) ∧ AV.yld l = AV.yld l ∧ AV.ref (0 : Nat) (0 : Nat) = AV.ref (0 : Nat) (0 : Nat) ∧ True) ∧ [AV.slc (3 : Nat) (List.map TFePoint.av v0)] = [AV.slc (3 : Nat) (List.map TFePoint.av v0)] ∧ ∃ k17, k17 < m2 ∧ I0 k17 (i3 + (1 : Nat)) [AV.int IntKind.i64 (IntKind.i64.wrap (n4 - (1 : Int)))]) ∧ True) ∧ (decide (n4 ≥ (0 : Int)) = false → i3 = len)
theorem ry129 (v0 : List TFePoint) (l : Nat) (Y : Nat → List AV → Prop) (len : Nat) : awpS Try.prog 1 l Y ⟨[0, 1, 3, 8, 18], [⟨1, [(3, .int .i64 0)], [], [], [], []⟩], [], []⟩ Try.f129 [.ref 0 0] [⟨89, false, [.slc 3 (List.map TFePoint.av v0)]⟩] len = RY129 v0 l Y len := by kernel_rfl
theorem sq129 (v0 : List TFePoint) (xs : List (List AV)) (h : ∀ l, RY129 v0 l (fun i x => xs[i]? = some x) xs.length) : SeqOf Try.prog 129 [.ref 0 0] [[.slc 3 (List.map TFePoint.av v0)]] xs :=
  seq_by (boxes := [⟨89, false, [.slc 3 (List.map TFePoint.av v0)]⟩]) Try.func129 Try.call129 rfl rfl rfl rfl (fun l => ry129 v0 l _ _) h
theorem c129 (l : List TFePoint) (hl : l.length ≤ 1000000) : Sqf 129 [.ref 0 0] [[.slc 3 (List.map TFePoint.av l)]] (backX TFePoint.av l) := sq129 l _ (fun y => by
  unfold RY129
  simp only [List.length_map]
  rw [i64 (n := (l.length : Int) - 1) (by omega)]
  refine ⟨fun m i vs => i ≤ l.length ∧ m = l.length - i ∧ vs = [.int .i64 ((l.length : Int) - 1 - i)], ⟨_, by omega, rfl, by simp⟩, ?_⟩
  rintro m i n ⟨hi, rfl, hv⟩
  cases hv
  refine ⟨fun h => ?_, fun h => ?_⟩
  · have h : i < l.length := by simp at h; omega
    obtain ⟨p, h1, h2⟩ := rev_get h
    have e : ((l.length : Int) - 1 - i).toNat = l.length - 1 - i := by omega
    refine ⟨p.Current, p.Melt.Lo, p.Melt.Hi, ⟨by omega, trivial, by rw [e, List.getElem?_map, h2]; rfl⟩, trivial, backX_get h1, ⟨⟨trivial, trivial, trivial, trivial⟩, trivial, _, (by omega : l.length - (i + 1) < l.length - i), by omega, rfl, ?_⟩, trivial⟩
    rw [i64 (by omega)]; congr 2; omega
  · rw [backX_len]; simp at h; omega)
def meltS (x : TFeFuse) (c : Int) : TEncl × Bool :=
  match x.Points.reverse.find? (fun p => decide (p.Current ≤ c)) with
  | some p => (p.Melt, true)
  | none => (.zero, false)
def meltA (r : TEncl × Bool) : AV := .tup [r.1.av, .bool r.2]
def R76 (x : TFeFuse) (current : Int) (S : SpecF) (Fr : FuncId → List AV → Nat → List AV → Prop) (Sq : FuncId → List AV → List (List AV) → List (List AV) → Prop) (Q : AV → List (List AV) → Prop) : Prop :=
  ∃ xs0, Sq (129 : Nat) [AV.ref (0 : Nat) (0 : Nat)] [[AV.slc (3 : Nat) (List.map TFePoint.av x.Points)]] xs0 ∧ (∀ (x3 : List AV), x3 ∈ xs0 → fitL [AV.int IntKind.i64 (0 : Int), TFeFault.zero.av] x3 = true ∧ AV.treeL x3 = true) ∧ ∃ (I3 : Nat → List AV → Prop), I3 (0 : Nat) [TEncl.zero.av, AV.agg [AV.bool false]] ∧ (∀ (i6 : Nat) (n7 n8 n9 n10 : Int), xs0[i6]? = some [AV.int IntKind.i64 n7, AV.agg [AV.int IntKind.i64 n8, AV.int IntKind.i64 n9, AV.int IntKind.i64 n10]] → ∀ (n12 n13 : Int) (b14 : Bool), I3 i6 [AV.agg [AV.int IntKind.i64 n12, AV.int IntKind.i64 n13], AV.agg [AV.bool b14]] → (decide (n8 ≤ current) = true → Q (AV.tup [AV.agg [AV.int IntKind.i64 n9, AV.int IntKind.i64 n10], AV.bool true]) []) ∧ (decide (n8 ≤ current) = false → x.cs = x.cs ∧ [AV.int IntKind.i64 current] = [AV.int IntKind.i64 current] ∧ I3 (i6 + (1 : Nat)) [AV.agg [AV.int IntKind.i64 n12, AV.int IntKind.i64 n13], AV.agg [AV.bool b14]])) ∧ ∀ (n6 n7 : Int) (b8 : Bool), I3 xs0.length [AV.agg [AV.int IntKind.i64 n6, AV.int IntKind.i64 n7], AV.agg [AV.bool b8]] → Q (AV.tup [TEncl.zero.av, AV.bool false]) []
theorem r76 (x : TFeFuse) (current : Int) (S : SpecF) (Fr : FuncId → List AV → Nat → List AV → Prop) (Sq : FuncId → List AV → List (List AV) → List (List AV) → Prop) (Q : AV → List (List AV) → Prop) : awpF Try.prog (mkS Try.prog S Fr Sq ⟨[], [], [], [(112, ⟨[0, 1, 2], [], [], []⟩)], []⟩ 4) 0 ⟨[0, 1, 2, 3, 4, 5, 7, 10, 11, 12, 16], [⟨3, [], [], [(4, .agg [.int .i64 0, .int .i64 0]), (5, .agg [.bool false])], [], [.int .i64 0, .agg [.int .i64 0, .int .i64 0, .int .i64 0]]⟩], [], []⟩ Try.f76 [x.av, .int .i64 current] [] Q = R76 x current S Fr Sq Q := by kernel_rfl
theorem s76 (x : TFeFuse) (current : Int) (v : AV) (O : List (List AV)) (h : R76 x current (SpecOf Try.prog) (FreshOf Try.prog) (SeqOf Try.prog) (fun r O' => r = v ∧ O' = O)) : SpecOf Try.prog 76 [x.av, .int .i64 current] [] v O :=
  spec_by (boxes := []) mixed (by exact ⟨Try.call112, trivial⟩) Try.func76 Try.call76 rfl rfl rfl (Nat.le_of_ble_eq_true rfl) (r76 x current (SpecOf Try.prog) (FreshOf Try.prog) (SeqOf Try.prog) _) h
theorem c76 (x : TFeFuse) (c : Int) (hl : x.Points.length ≤ 1000000) : Sp 76 [x.av, .int .i64 c] [] (meltA (meltS x c)) [] := s76 x c _ _ (by
  unfold R76
  refine ⟨_, c129 x.Points hl, ?_, ?_⟩
  · exact backX_fit fun p => ⟨rfl, rfl⟩
  refine ⟨fun i vs => vs = [TEncl.zero.av, .agg [.bool false]] ∧ (x.Points.reverse.drop i).find? (fun p => decide (p.Current ≤ c)) = x.Points.reverse.find? (fun p => decide (p.Current ≤ c)), ⟨rfl, rfl⟩, ?_, ?_⟩
  · rintro i n n1 n2 n3 hi m1 m2 b ⟨hv, hd⟩
    obtain ⟨p, hp, he⟩ := backX_at hi
    cases he
    cases hv
    rw [find_at hp] at hd
    refine ⟨fun h => ⟨?_, rfl⟩, fun h => ⟨rfl, rfl, rfl, ?_⟩⟩
    · rw [if_pos h] at hd
      rw [meltS, ← hd]; rfl
    · rw [← hd, if_neg (by rw [h]; simp)]
  · rintro n1 n2 b ⟨hv, hd⟩
    rw [backX_len, List.drop_of_length_le (by simp)] at hd
    refine ⟨?_, rfl⟩
    rw [meltS, ← hd]; rfl)
end Go.Proofs.Ytbdbnpnichkcjaa

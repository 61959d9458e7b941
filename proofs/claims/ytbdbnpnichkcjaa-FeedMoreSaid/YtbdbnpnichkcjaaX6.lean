/- Contracts: faults, fuses. Contracts: protections. Contracts: whether a protection yields to another one. -/
import Derived.Test.YtbdbnpnichkcjaaU
namespace Go.Proofs.Ytbdbnpnichkcjaa
open Go.RowKit
def backE (earth : Bool) (c : TFeCable) : TEncl := if earth then c.Earth else c.Core
def loG (f : TFeFeeder) (earth : Bool) (i : Nat) : Int := (nd f i).Length * (cb f i).Core.Lo + (nd f i).Length * (backE earth (cb f i)).Lo
def hiG (f : TFeFeeder) (earth : Bool) (i : Nat) : Int := (nd f i).Length * (cb f i).Core.Hi + (nd f i).Length * (backE earth (cb f i)).Hi
def rE (f : TFeFeeder) (l : List Nat) (earth : Bool) : TEncl := ⟨f.Source.Lo + sumL (loG f earth) l, f.Source.Hi + sumL (hiG f earth) l⟩
def faultS (f : TFeFeeder) (node : Nat) (earth : Bool) : TEncl := ⟨1000000 * f.Volts.Lo / (rE f (upL f node) earth).Hi, (1000000 * f.Volts.Hi + (rE f (upL f node) earth).Lo - 1) / (rE f (upL f node) earth).Lo⟩
theorem back_ok {c : TFeCable} (h : CabOK c) (earth : Bool) : 1 ≤ (backE earth c).Lo ∧ (backE earth c).Lo ≤ (backE earth c).Hi ∧ (backE earth c).Hi ≤ 1000000 := by
  cases earth
  · exact h.core
  · exact h.earth
theorem mulb {a b : Int} (ha : 1 ≤ a ∧ a ≤ 5000) (hb : 1 ≤ b ∧ b ≤ 1000000) : 1 ≤ a * b ∧ a * b ≤ 5000000000 := by
  have g1 : 1 * 1 ≤ a * b := Int.mul_le_mul (by omega) (by omega) (by omega) (by omega)
  have g2 : a * b ≤ 5000 * 1000000 := Int.mul_le_mul (by omega) (by omega) (by omega) (by omega)
  omega
theorem lo_bound {f : TFeFeeder} (hf : OK f) (earth : Bool) {i : Nat} (h : i < f.Nodes.length) (h0 : i ≠ 0) : 0 ≤ loG f earth i ∧ loG f earth i ≤ 10000000000 := by
  have h1 := (node_ok hf h h0).len
  have h2 := cb_ok hf h h0
  have h3 := back_ok h2 earth
  have h4 := mulb h1 (b := (cb f i).Core.Lo) (by have := h2.core; omega)
  have h5 := mulb h1 (b := (backE earth (cb f i)).Lo) (by omega)
  unfold loG; omega
theorem hi_bound {f : TFeFeeder} (hf : OK f) (earth : Bool) {i : Nat} (h : i < f.Nodes.length) (h0 : i ≠ 0) : 0 ≤ hiG f earth i ∧ hiG f earth i ≤ 10000000000 := by
  have h1 := (node_ok hf h h0).len
  have h2 := cb_ok hf h h0
  have h3 := back_ok h2 earth
  have h4 := mulb h1 (b := (cb f i).Core.Hi) (by have := h2.core; omega)
  have h5 := mulb h1 (b := (backE earth (cb f i)).Hi) (by omega)
  unfold hiG; omega
def R66 (f : TFeFeeder) (node : Int) (earth : Bool) (_S : SpecF) (_Fr : FuncId → List AV → Nat → List AV → Prop) (Sq : FuncId → List AV → List (List AV) → List (List AV) → Prop) (Q : AV → List (List AV) → Prop) : Prop :=
  ∃ xs0, Sq (125 : Nat) [AV.ref (0 : Nat) (0 : Nat), AV.ref (1 : Nat) (0 : Nat)] [[AV.int .i64 node], f.cs] xs0 ∧ (∀ (x3 : List AV), x3 ∈ xs0 → fitL [AV.int .i64 (0 : Int)] x3 = true ∧ AV.treeL x3 = true) ∧ ∃ (I3 : Nat → List AV → Prop), I3 (0 : Nat) [f.Source.av] ∧ (∀ (i6 : Nat) (n7 : Int), xs0[i6]? = some [AV.int .i64 n7] → ∀ (n9 n10 : Int), I3 i6 [AV.agg [AV.int .i64 n9, AV.int .i64 n10]] → ∃ s12 n13 n14 n15 n16 n17 n18 n19 n20 n21 n22, ((0 : Int) ≤ n7 ∧ (11 : Nat) = (11 : Nat) ∧ (List.map TFeNode.av f.Nodes)[n7.toNat]? = some (AV.agg [AV.str s12, AV.int .i64 n13, AV.int .i64 n14, AV.int .i64 n15, AV.int .i64 n16, AV.int .i64 n17, AV.int .i64 n18, AV.int .i64 n19, AV.int .i64 n20, AV.int .i64 n21, AV.int .i64 n22])) ∧ ∃ s24 n25 n26 n27 n28 n29, ((0 : Int) ≤ n14 ∧ (6 : Nat) = (6 : Nat) ∧ (List.map TFeCable.av f.Cables)[n14.toNat]? = some (AV.agg [AV.str s24, AV.int .i64 n25, AV.int .i64 n26, AV.int .i64 n27, AV.int .i64 n28, AV.int .i64 n29])) ∧ (earth = true → ∃ (I33 : Nat → List AV → Prop), (∃ m35, I33 m35 [AV.int .i64 (0 : Int), AV.agg [AV.int .i64 n9, AV.int .i64 n10]]) ∧ ∀ (m35 : Nat) (n36 n37 n38 : Int), I33 m35 [AV.int .i64 n36, AV.agg [AV.int .i64 n37, AV.int .i64 n38]] → (decide (n36 < (2 : Int)) = true → ((0 : Int) ≤ n36 ∧ n36 < (2 : Int)) ∧ (n36 = (1 : Int) → f.cs = f.cs ∧ [AV.bool earth] = [AV.bool earth] ∧ TEncl.z0 = TEncl.z0 ∧ [AV.str s12, AV.int .i64 n13, AV.int .i64 n14, AV.int .i64 n15, AV.int .i64 n16, AV.int .i64 n17, AV.int .i64 n18, AV.int .i64 n19, AV.int .i64 n20, AV.int .i64 n21, AV.int .i64 n22] = [AV.str s12, AV.int .i64 n13, AV.int .i64 n14, AV.int .i64 n15, AV.int .i64 n16, AV.int .i64 n17, AV.int .i64 n18, AV.int .i64 n19, AV.int .i64 n20, AV.int .i64 n21, AV.int .i64 n22] ∧ [AV.str s24, AV.int .i64 n25, AV.int .i64 n26, AV.int .i64 n27, AV.int .i64 n28, AV.int .i64 n29] = [AV.str s24, AV.int .i64 n25, AV.int .i64 n26, AV.int .i64 n27, AV.int .i64 n28, AV.int .i64 n29] ∧ ∃ k50, k50 < m35 ∧ I33 k50 [AV.int .i64 (IntKind.i64.wrap (n36 + (1 : Int))), AV.agg [AV.int .i64 (IntKind.i64.wrap (n37 + IntKind.i64.wrap (n15 * n27))), AV.int .i64 (IntKind.i64.wrap (n38 + IntKind.i64.wrap (n15 * n28)))]]) ∧ (n36 = (0 : Int) → f.cs = f.cs ∧ [AV.bool earth] = [AV.bool earth] ∧ TEncl.z0 = TEncl.z0 ∧ [AV.str s12, AV.int .i64 n13, AV.int .i64 n14, AV.int .i64 n15, AV.int .i64 n16, AV.int .i64 n17, AV.int .i64 n18, AV.int .i64 n19, AV.int .i64 n20, AV.int .i64 n21, AV.int .i64 n22] = [AV.str s12, AV.int .i64 n13, AV.int .i64 n14, AV.int .i64 n15, AV.int .i64 n16, AV.int .i64 n17, AV.int .i64 n18, AV.int .i64 n19, AV.int .i64 n20, AV.int .i64 n21, AV.int .i64 n22] ∧ [AV.str s24, AV.int .i64 n25, AV.int .i64 n26, AV.int .i64 n27, AV.int .i64 n28, AV.int .i64 n29] = [AV.str s24, AV.int .i64 n25, AV.int .i64 n26, AV.int .i64 n27, AV.int .i64 n28, AV.int .i64 n29] ∧ ∃ k51, k51 < m35 ∧ I33 k51 [AV.int .i64 (IntKind.i64.wrap (n36 + (1 : Int))), AV.agg [AV.int .i64 (IntKind.i64.wrap (n37 + IntKind.i64.wrap (n15 * n25))), AV.int .i64 (IntKind.i64.wrap (n38 + IntKind.i64.wrap (n15 * n26)))]]) ∧ True) ∧ (decide (n36 < (2 : Int)) = false → f.cs = f.cs ∧ [AV.bool earth] = [AV.bool earth] ∧ TEncl.z0 = TEncl.z0 ∧ I3 (i6 + (1 : Nat)) [AV.agg [AV.int .i64 n37, AV.int .i64 n38]])) ∧ (earth = false → ∃ (I33 : Nat → List AV → Prop), (∃ m35, I33 m35 [AV.int .i64 (0 : Int), AV.agg [AV.int .i64 n9, AV.int .i64 n10]]) ∧ ∀ (m35 : Nat) (n36 n37 n38 : Int), I33 m35 [AV.int .i64 n36, AV.agg [AV.int .i64 n37, AV.int .i64 n38]] → (decide (n36 < (2 : Int)) = true → ((0 : Int) ≤ n36 ∧ n36 < (2 : Int)) ∧ (n36 = (1 : Int) → f.cs = f.cs ∧ [AV.bool earth] = [AV.bool earth] ∧ TEncl.z0 = TEncl.z0 ∧ [AV.str s12, AV.int .i64 n13, AV.int .i64 n14, AV.int .i64 n15, AV.int .i64 n16, AV.int .i64 n17, AV.int .i64 n18, AV.int .i64 n19, AV.int .i64 n20, AV.int .i64 n21, AV.int .i64 n22] = [AV.str s12, AV.int .i64 n13, AV.int .i64 n14, AV.int .i64 n15, AV.int .i64 n16, AV.int .i64 n17, AV.int .i64 n18, AV.int .i64 n19, AV.int .i64 n20, AV.int .i64 n21, AV.int .i64 n22] ∧ [AV.str s24, AV.int .i64 n25, AV.int .i64 n26, AV.int .i64 n27, AV.int .i64 n28, AV.int .i64 n29] = [AV.str s24, AV.int .i64 n25, AV.int .i64 n26, AV.int .i64 n27, AV.int .i64 n28, AV.int .i64 n29] ∧ ∃ k50, k50 < m35 ∧ I33 k50 [AV.int .i64 (IntKind.i64.wrap (n36 + (1 : Int))), AV.agg [AV.int .i64 (IntKind.i64.wrap (n37 + IntKind.i64.wrap (n15 * n25))), AV.int .i64 (IntKind.i64.wrap (n38 + IntKind.i64.wrap (n15 * n26)))]]) ∧ (n36 = (0 : Int) → f.cs = f.cs ∧ [AV.bool earth] = [AV.bool earth] ∧ TEncl.z0 = TEncl.z0 ∧ [AV.str s12, AV.int .i64 n13, AV.int .i64 n14, AV.int .i64 n15, AV.int .i64 n16, AV.int .i64 n17, AV.int .i64 n18, AV.int .i64 n19, AV.int .i64 n20, AV.int .i64 n21, AV.int .i64 n22] = [AV.str s12, AV.int .i64 n13, AV.int .i64 n14, AV.int .i64 n15, AV.int .i64 n16, AV.int .i64 n17, AV.int .i64 n18, AV.int .i64 n19, AV.int .i64 n20, AV.int .i64 n21, AV.int .i64 n22] ∧ [AV.str s24, AV.int .i64 n25, AV.int .i64 n26, AV.int .i64 n27, AV.int .i64 n28, AV.int .i64 n29] = [AV.str s24, AV.int .i64 n25, AV.int .i64 n26, AV.int .i64 n27, AV.int .i64 n28, AV.int .i64 n29] ∧ ∃ k51, k51 < m35 ∧ I33 k51 [AV.int .i64 (IntKind.i64.wrap (n36 + (1 : Int))), AV.agg [AV.int .i64 (IntKind.i64.wrap (n37 + IntKind.i64.wrap (n15 * n25))), AV.int .i64 (IntKind.i64.wrap (n38 + IntKind.i64.wrap (n15 * n26)))]]) ∧ True) ∧ (decide (n36 < (2 : Int)) = false → f.cs = f.cs ∧ [AV.bool earth] = [AV.bool earth] ∧ TEncl.z0 = TEncl.z0 ∧ I3 (i6 + (1 : Nat)) [AV.agg [AV.int .i64 n37, AV.int .i64 n38]]))) ∧ ∀ (n6 n7 : Int), I3 xs0.length [AV.agg [AV.int .i64 n6, AV.int .i64 n7]] → n7 ≠ (0 : Int) ∧ n6 ≠ (0 : Int) ∧ Q (AV.agg [AV.int .i64 (IntKind.i64.wrap ((IntKind.i64.wrap ((1000000 : Int) * f.Volts.Lo)).tdiv n7)), AV.int .i64 (IntKind.i64.wrap ((IntKind.i64.wrap (IntKind.i64.wrap (IntKind.i64.wrap ((1000000 : Int) * f.Volts.Hi) + n6) - (1 : Int))).tdiv n6))]) []
theorem r66 (f : TFeFeeder) (node : Int) (earth : Bool) (S : SpecF) (Fr : FuncId → List AV → Nat → List AV → Prop) (Sq : FuncId → List AV → List (List AV) → List (List AV) → Prop) (Q : AV → List (List AV) → Prop) : awpF Try.prog (mkS Try.prog S Fr Sq ⟨[], [], [], [(104, ⟨[0, 1, 2, 3, 4], [], [], []⟩)], []⟩ 4) 0 ⟨[0, 1, 2, 3, 5, 6, 7, 8, 9, 10, 12, 17, 18, 40, 41, 42], [⟨4, [], [], [(7, .agg [.int .i64 0, .int .i64 0])], [], [.int .i64 0]⟩, ⟨7, [(41, .int .i64 0)], [], [(2000007, .agg [.int .i64 0, .int .i64 0])], [], []⟩], [], []⟩ Try.f66 [f.av, .int .i64 node, .bool earth] [] Q = R66 f node earth S Fr Sq Q := by kernel_rfl
theorem s66 (f : TFeFeeder) (node : Int) (earth : Bool) (v : AV) (O : List (List AV)) (h : R66 f node earth (SpecOf Try.prog) (FreshOf Try.prog) (SeqOf Try.prog) (fun r O' => r = v ∧ O' = O)) : SpecOf Try.prog 66 [f.av, .int .i64 node, .bool earth] [] v O :=
  spec_by (boxes := []) mixed (by exact ⟨Try.call104, trivial⟩) Try.func66 Try.call66 rfl rfl rfl (Nat.le_of_ble_eq_true rfl) (r66 f node earth (SpecOf Try.prog) (FreshOf Try.prog) (SeqOf Try.prog) _) h
theorem c66 {f : TFeFeeder} (hf : OK f) (node : Nat) (h : node < f.Nodes.length) (earth : Bool) : Sp 66 [f.av, .int .i64 node, .bool earth] [] (faultS f node earth).av [] := s66 f node earth _ _ (by
  unfold R66
  refine ⟨_, c125 hf node h, fit_up, ?_⟩
  have tl := fun k => take_bound (g := loG f earth) hf h (by decide) (fun i hi h0 => lo_bound hf earth hi h0) k
  have th := fun k => take_bound (g := hiG f earth) hf h (by decide) (fun i hi h0 => hi_bound hf earth hi h0) k
  have hsrc := hf.source
  refine ⟨fun i vs => vs = [(rE f ((upL f node).take i) earth).av], ?_, ?_, ?_⟩
  · show [f.Source.av] = _
    simp [rE, sumL, TEncl.av, TEncl.cs]
  · intro i n hi n1 n2 hv
    obtain ⟨x, rfl, hx⟩ := up_at hi
    cases hv
    obtain ⟨h0, hlt, _⟩ := upL_mem hf h (List.mem_of_getElem? hx)
    have hc := (node_ok hf hlt h0).cable
    have hb := cb_ok hf hlt h0
    have hlen := (node_ok hf hlt h0).len
    have hbk := back_ok hb earth
    have m1 := mulb hlen (b := (cb f x).Core.Lo) (by have := hb.core; omega)
    have m2 := mulb hlen (b := (cb f x).Core.Hi) (by have := hb.core; omega)
    have m3 := mulb hlen (b := (backE earth (cb f x)).Lo) (by omega)
    have m4 := mulb hlen (b := (backE earth (cb f x)).Hi) (by omega)
    have t1 := tl i; have t2 := th i
    have nxt : rE f ((upL f node).take (i + 1)) earth = ⟨(rE f ((upL f node).take i) earth).Lo + (nd f x).Length * (cb f x).Core.Lo + (nd f x).Length * (backE earth (cb f x)).Lo, (rE f ((upL f node).take i) earth).Hi + (nd f x).Length * (cb f x).Core.Hi + (nd f x).Length * (backE earth (cb f x)).Hi⟩ := by
      simp only [rE, sumL_take hx, loG, hiG, Int.add_assoc]
    have b1 : 0 ≤ (rE f ((upL f node).take i) earth).Lo ∧ (rE f ((upL f node).take i) earth).Lo ≤ 500000000000 := by simp only [rE]; omega
    have b2 : 0 ≤ (rE f ((upL f node).take i) earth).Hi ∧ (rE f ((upL f node).take i) earth).Hi ≤ 500000000000 := by simp only [rE]; omega
    generalize hE : rE f ((upL f node).take i) earth = E at nxt b1 b2 ⊢
    let st : Nat → TEncl := fun k => if k = 0 then E else if k = 1 then ⟨E.Lo + (nd f x).Length * (cb f x).Core.Lo, E.Hi + (nd f x).Length * (cb f x).Core.Hi⟩ else rE f ((upL f node).take (i + 1)) earth
    have s1 : [AV.int .i64 (IntKind.i64.wrap ((0 : Int) + 1)), .agg [.int .i64 (IntKind.i64.wrap (E.Lo + IntKind.i64.wrap ((nd f x).Length * (cb f x).Core.Lo))), .int .i64 (IntKind.i64.wrap (E.Hi + IntKind.i64.wrap ((nd f x).Length * (cb f x).Core.Hi)))]] = [.int .i64 ((1 : Nat) : Int), (st 1).av] := by
      rw [i64 (n := (nd f x).Length * (cb f x).Core.Lo) (by omega), i64 (n := (nd f x).Length * (cb f x).Core.Hi) (by omega), i64 (n := E.Lo + _) (by omega), i64 (n := E.Hi + _) (by omega)]; rfl
    have s2 : [AV.int .i64 (IntKind.i64.wrap ((1 : Int) + 1)), .agg [.int .i64 (IntKind.i64.wrap (E.Lo + (nd f x).Length * (cb f x).Core.Lo + IntKind.i64.wrap ((nd f x).Length * (backE earth (cb f x)).Lo))), .int .i64 (IntKind.i64.wrap (E.Hi + (nd f x).Length * (cb f x).Core.Hi + IntKind.i64.wrap ((nd f x).Length * (backE earth (cb f x)).Hi)))]] = [.int .i64 ((2 : Nat) : Int), (st 2).av] := by
      rw [i64 (n := (nd f x).Length * (backE earth (cb f x)).Lo) (by omega), i64 (n := (nd f x).Length * (backE earth (cb f x)).Hi) (by omega), i64 (n := _ + (nd f x).Length * (backE earth (cb f x)).Lo) (by omega), i64 (n := _ + (nd f x).Length * (backE earth (cb f x)).Hi) (by omega)]
      show _ = [_, (rE f ((upL f node).take (i + 1)) earth).av]
      rw [nxt]; rfl
    refine ⟨(nd f x).Name, (nd f x).Parent, (nd f x).Cable, (nd f x).Length, (nd f x).Fuse, (nd f x).Loads0.Lo, (nd f x).Loads0.Hi, (nd f x).Loads1.Lo, (nd f x).Loads1.Hi, (nd f x).Loads2.Lo, (nd f x).Loads2.Hi, ⟨by omega, rfl, nd_av hlt⟩, (cb f x).Name, (cb f x).Core.Lo, (cb f x).Core.Hi, (cb f x).Earth.Lo, (cb f x).Earth.Hi, (cb f x).Rated, ⟨hc.1, rfl, cb_av hf hlt h0⟩, fun he => ?_, fun he => ?_⟩ <;> subst he
    all_goals
      refine ⟨fun m vs => ∃ k : Nat, k ≤ 2 ∧ m = 2 - k ∧ vs = [.int .i64 k, (st k).av], ⟨_, 0, by omega, rfl, rfl⟩, ?_⟩
      rintro m n n1 n2 ⟨k, hk, rfl, hv⟩
      cases hv
      refine ⟨fun g => ⟨⟨by omega, by simpa using g⟩, fun g2 => ⟨rfl, rfl, rfl, rfl, rfl, 0, ?_, 2, by omega, rfl, ?_⟩, fun g2 => ⟨rfl, rfl, rfl, rfl, rfl, 1, ?_, 1, by omega, rfl, ?_⟩, trivial⟩, fun g => ⟨rfl, rfl, rfl, ?_⟩⟩
      · omega
      · obtain rfl : k = 1 := by omega
        exact s2
      · omega
      · obtain rfl : k = 0 := by omega
        exact s1
      · obtain rfl : k = 2 := by simp at g; omega
        rfl
  · intro n1 n2 hv
    rw [List.length_map, List.take_length] at hv
    cases hv
    have t1 := tl (upL f node).length; have t2 := th (upL f node).length
    rw [List.take_length] at t1 t2
    have hv := hf.volts
    have b1 : 1 ≤ (rE f (upL f node) earth).Lo ∧ (rE f (upL f node) earth).Lo ≤ 500000000000 := by simp only [rE]; omega
    have b2 : 1 ≤ (rE f (upL f node) earth).Hi ∧ (rE f (upL f node) earth).Hi ≤ 500000000000 := by simp only [rE]; omega
    have g1 : 0 ≤ 1000000 * f.Volts.Lo / (rE f (upL f node) earth).Hi ∧ 1000000 * f.Volts.Lo / (rE f (upL f node) earth).Hi ≤ 1000000 * f.Volts.Lo := ⟨Int.ediv_nonneg (by omega) (by omega), Int.ediv_le_self _ (by omega)⟩
    have g2 : 0 ≤ (1000000 * f.Volts.Hi + (rE f (upL f node) earth).Lo - 1) / (rE f (upL f node) earth).Lo ∧ (1000000 * f.Volts.Hi + (rE f (upL f node) earth).Lo - 1) / (rE f (upL f node) earth).Lo ≤ 1000000 * f.Volts.Hi + (rE f (upL f node) earth).Lo - 1 := ⟨Int.ediv_nonneg (by omega) (by omega), Int.ediv_le_self _ (by omega)⟩
    refine ⟨by omega, by omega, ?_, rfl⟩
    rw [i64 (n := 1000000 * f.Volts.Lo) (by omega), i64 (n := 1000000 * f.Volts.Hi) (by omega), i64 (n := 1000000 * f.Volts.Hi + (rE f (upL f node) earth).Lo) (by omega), i64 (n := 1000000 * f.Volts.Hi + (rE f (upL f node) earth).Lo - 1) (by omega),
      Int.tdiv_eq_ediv_of_nonneg (by omega), Int.tdiv_eq_ediv_of_nonneg (by omega), i64 (n := 1000000 * f.Volts.Lo / (rE f (upL f node) earth).Hi) (by omega), i64 (n := (1000000 * f.Volts.Hi + (rE f (upL f node) earth).Lo - 1) / (rE f (upL f node) earth).Lo) (by omega)]
    rfl)
def dropR (f : TFeFeeder) (node p : Int) : Int × Int := if askedS f node ≠ 0 then (0, askedS f node) else if !inB p 0 2 then (0, 7) else (dropS f node.toNat p, 0)
def faultR (f : TFeFeeder) (node : Int) (earth : Bool) : TEncl × Int := if innerS f node ≠ 0 then (.zero, innerS f node) else (faultS f node.toNat earth, 0)
def neutN (f : TFeFeeder) (i : Nat) : Int := neutS (curE f TFeNode.Loads0 i) (curE f TFeNode.Loads1 i) (curE f TFeNode.Loads2 i)
def neutR (f : TFeFeeder) (node : Int) : Int × Int := if innerS f node ≠ 0 then (0, innerS f node) else (neutN f node.toNat, 0)
def R18 (f : TFeFeeder) (node : Int) (phase : Int) (S : SpecF) (_Fr : FuncId → List AV → Nat → List AV → Prop) (_Sq : FuncId → List AV → List (List AV) → List (List AV) → Prop) (Q : AV → List (List AV) → Prop) : Prop :=
  ∃ n0, S (61 : Nat) [f.av, AV.int .i64 node] [] (AV.int .i64 n0) [] ∧ ((n0 != (0 : Int)) = true → Q (AV.tup [AV.int .i64 (0 : Int), AV.int .i64 n0]) []) ∧ ((n0 != (0 : Int)) = false → ∃ b4, S (43 : Nat) [AV.int .i64 phase, AV.int .i64 (0 : Int), AV.int .i64 (2 : Int)] [] (AV.bool b4) [] ∧ ((!b4) = true → Q (AV.tup [AV.int .i64 (0 : Int), AV.int .i64 (7 : Int)]) []) ∧ ((!b4) = false → ∃ n8, S (62 : Nat) [f.av, AV.int .i64 node, AV.int .i64 phase] [] (AV.int .i64 n8) [] ∧ Q (AV.tup [AV.int .i64 n8, AV.int .i64 (0 : Int)]) []))
theorem r18 (f : TFeFeeder) (node : Int) (phase : Int) (S : SpecF) (Fr : FuncId → List AV → Nat → List AV → Prop) (Sq : FuncId → List AV → List (List AV) → List (List AV) → Prop) (Q : AV → List (List AV) → Prop) : awpF Try.prog (mkS Try.prog S Fr Sq ⟨[], [], [], [], []⟩ 0) 0 ⟨[0, 1, 2, 3, 6, 7, 8, 12, 16], [], [], []⟩ Try.f18 [f.av, .int .i64 node, .int .i64 phase] [] Q = R18 f node phase S Fr Sq Q := by kernel_rfl
theorem s18 (f : TFeFeeder) (node : Int) (phase : Int) (v : AV) (O : List (List AV)) (h : R18 f node phase (SpecOf Try.prog) (FreshOf Try.prog) (SeqOf Try.prog) (fun r O' => r = v ∧ O' = O)) : SpecOf Try.prog 18 [f.av, .int .i64 node, .int .i64 phase] [] v O :=
  spec_by (boxes := []) mixed (by exact trivial) Try.func18 Try.call18 rfl rfl rfl (Nat.le_of_ble_eq_true rfl) (r18 f node phase (SpecOf Try.prog) (FreshOf Try.prog) (SeqOf Try.prog) _) h
theorem c18 (f : TFeFeeder) (hn : NOK f) (node p : Int) : Sp 18 [f.av, .int .i64 node, .int .i64 p] [] (.tup [.int .i64 (dropR f node p).1, .int .i64 (dropR f node p).2]) [] := s18 f node p _ _ (by
  refine ⟨_, c61 f hn node, fun h => ⟨?_, rfl⟩, fun h => ⟨_, c43 _ _ _, fun h2 => ⟨?_, rfl⟩, fun h2 => ?_⟩⟩
  · have h : askedS f node ≠ 0 := by simpa using h
    rw [dropR, if_pos h]
  · have h : ¬ askedS f node ≠ 0 := by simpa using h
    rw [dropR, if_neg h, if_pos h2]
  · have h : askedS f node = 0 := by simpa using h
    have h2 : ¬ (!inB p 0 2) = true := by rw [h2]; simp
    obtain ⟨hf, k, rfl, hk⟩ := asked_ok h
    have hp := inB_iff.1 (by simpa using h2 : inB p 0 2 = true)
    rw [dropR, if_neg (by omega), if_neg h2]
    exact ⟨_, c62 hf k hk p (by omega), rfl, rfl⟩)
def R20 (f : TFeFeeder) (node : Int) (earth : Bool) (S : SpecF) (_Fr : FuncId → List AV → Nat → List AV → Prop) (_Sq : FuncId → List AV → List (List AV) → List (List AV) → Prop) (Q : AV → List (List AV) → Prop) : Prop :=
  ∃ n0, S (65 : Nat) [f.av, AV.int .i64 node] [] (AV.int .i64 n0) [] ∧ ((n0 != (0 : Int)) = true → Q (AV.tup [TEncl.zero.av, AV.int .i64 n0]) []) ∧ ((n0 != (0 : Int)) = false → ∃ n4 n5, S (66 : Nat) [f.av, AV.int .i64 node, AV.bool earth] [] (AV.agg [AV.int .i64 n4, AV.int .i64 n5]) [] ∧ Q (AV.tup [AV.agg [AV.int .i64 n4, AV.int .i64 n5], AV.int .i64 (0 : Int)]) [])
theorem r20 (f : TFeFeeder) (node : Int) (earth : Bool) (S : SpecF) (Fr : FuncId → List AV → Nat → List AV → Prop) (Sq : FuncId → List AV → List (List AV) → List (List AV) → Prop) (Q : AV → List (List AV) → Prop) : awpF Try.prog (mkS Try.prog S Fr Sq ⟨[], [], [], [], []⟩ 0) 0 ⟨[0, 1, 2, 3, 6, 7, 8, 13], [], [], []⟩ Try.f20 [f.av, .int .i64 node, .bool earth] [] Q = R20 f node earth S Fr Sq Q := by kernel_rfl
theorem s20 (f : TFeFeeder) (node : Int) (earth : Bool) (v : AV) (O : List (List AV)) (h : R20 f node earth (SpecOf Try.prog) (FreshOf Try.prog) (SeqOf Try.prog) (fun r O' => r = v ∧ O' = O)) : SpecOf Try.prog 20 [f.av, .int .i64 node, .bool earth] [] v O :=
  spec_by (boxes := []) mixed (by exact trivial) Try.func20 Try.call20 rfl rfl rfl (Nat.le_of_ble_eq_true rfl) (r20 f node earth (SpecOf Try.prog) (FreshOf Try.prog) (SeqOf Try.prog) _) h
theorem c20 (f : TFeFeeder) (hn : NOK f) (node : Int) (earth : Bool) : Sp 20 [f.av, .int .i64 node, .bool earth] [] (.tup [(faultR f node earth).1.av, .int .i64 (faultR f node earth).2]) [] := s20 f node earth _ _ (by
  refine ⟨_, c65 f hn node, fun h => ⟨?_, rfl⟩, fun h => ?_⟩
  · have h : innerS f node ≠ 0 := by simpa using h
    rw [faultR, if_pos h]
  · have h : innerS f node = 0 := by simpa using h
    obtain ⟨hf, k, rfl, hk, h0⟩ := inner_ok h
    rw [faultR, if_neg (by omega)]
    exact ⟨_, _, c66 hf k hk earth, rfl, rfl⟩)
def R26 (f : TFeFeeder) (node : Int) (S : SpecF) (_Fr : FuncId → List AV → Nat → List AV → Prop) (_Sq : FuncId → List AV → List (List AV) → List (List AV) → Prop) (Q : AV → List (List AV) → Prop) : Prop :=
  ∃ n0, S (65 : Nat) [f.av, AV.int .i64 node] [] (AV.int .i64 n0) [] ∧ ((n0 != (0 : Int)) = true → Q (AV.tup [AV.int .i64 (0 : Int), AV.int .i64 n0]) []) ∧ ((n0 != (0 : Int)) = false → ∃ n4 n5 n6 n7 n8 n9, S (74 : Nat) [f.av, AV.int .i64 node] [] (AV.agg [AV.int .i64 n4, AV.int .i64 n5, AV.int .i64 n6, AV.int .i64 n7, AV.int .i64 n8, AV.int .i64 n9]) [] ∧ ∃ n11, S (75 : Nat) [AV.agg [AV.int .i64 n4, AV.int .i64 n5, AV.int .i64 n6, AV.int .i64 n7, AV.int .i64 n8, AV.int .i64 n9]] [] (AV.int .i64 n11) [] ∧ Q (AV.tup [AV.int .i64 n11, AV.int .i64 (0 : Int)]) [])
theorem r26 (f : TFeFeeder) (node : Int) (S : SpecF) (Fr : FuncId → List AV → Nat → List AV → Prop) (Sq : FuncId → List AV → List (List AV) → List (List AV) → Prop) (Q : AV → List (List AV) → Prop) : awpF Try.prog (mkS Try.prog S Fr Sq ⟨[], [], [], [], []⟩ 0) 0 ⟨[0, 1, 2, 4, 5, 6, 11], [], [], []⟩ Try.f26 [f.av, .int .i64 node] [] Q = R26 f node S Fr Sq Q := by kernel_rfl
theorem s26 (f : TFeFeeder) (node : Int) (v : AV) (O : List (List AV)) (h : R26 f node (SpecOf Try.prog) (FreshOf Try.prog) (SeqOf Try.prog) (fun r O' => r = v ∧ O' = O)) : SpecOf Try.prog 26 [f.av, .int .i64 node] [] v O :=
  spec_by (boxes := []) mixed (by exact trivial) Try.func26 Try.call26 rfl rfl rfl (Nat.le_of_ble_eq_true rfl) (r26 f node (SpecOf Try.prog) (FreshOf Try.prog) (SeqOf Try.prog) _) h
theorem c26 (f : TFeFeeder) (hn : NOK f) (node : Int) : Sp 26 [f.av, .int .i64 node] [] (.tup [.int .i64 (neutR f node).1, .int .i64 (neutR f node).2]) [] := s26 f node _ _ (by
  refine ⟨_, c65 f hn node, fun h => ⟨?_, rfl⟩, fun h => ?_⟩
  · have h : innerS f node ≠ 0 := by simpa using h
    rw [neutR, if_pos h]
  · have h : innerS f node = 0 := by simpa using h
    obtain ⟨hf, k, rfl, hk, h0⟩ := inner_ok h
    rw [neutR, if_neg (by omega)]
    exact ⟨_, _, _, _, _, _, c74 hf k hk h0, _, c75 _ _ _ (curE_ok hf _ (.inl rfl) k) (curE_ok hf _ (.inr (.inl rfl)) k) (curE_ok hf _ (.inr (.inr rfl)) k), rfl, rfl⟩)
def curR (f : TFeFeeder) (node : Int) : List AV × Int := if innerS f node ≠ 0 then (six ⟨0, 0⟩ ⟨0, 0⟩ ⟨0, 0⟩, innerS f node) else (cur3 f node.toNat, 0)
def R24 (f : TFeFeeder) (node : Int) (S : SpecF) (_Fr : FuncId → List AV → Nat → List AV → Prop) (_Sq : FuncId → List AV → List (List AV) → List (List AV) → Prop) (Q : AV → List (List AV) → Prop) : Prop :=
  ∃ n0, S (65 : Nat) [f.av, AV.int .i64 node] [] (AV.int .i64 n0) [] ∧ ((n0 != (0 : Int)) = true → Q (AV.tup [AV.agg [AV.int .i64 (0 : Int), AV.int .i64 (0 : Int), AV.int .i64 (0 : Int), AV.int .i64 (0 : Int), AV.int .i64 (0 : Int), AV.int .i64 (0 : Int)], AV.int .i64 n0]) []) ∧ ((n0 != (0 : Int)) = false → ∃ n4 n5 n6 n7 n8 n9, S (74 : Nat) [f.av, AV.int .i64 node] [] (AV.agg [AV.int .i64 n4, AV.int .i64 n5, AV.int .i64 n6, AV.int .i64 n7, AV.int .i64 n8, AV.int .i64 n9]) [] ∧ Q (AV.tup [AV.agg [AV.int .i64 n4, AV.int .i64 n5, AV.int .i64 n6, AV.int .i64 n7, AV.int .i64 n8, AV.int .i64 n9], AV.int .i64 (0 : Int)]) [])
theorem r24 (f : TFeFeeder) (node : Int) (S : SpecF) (Fr : FuncId → List AV → Nat → List AV → Prop) (Sq : FuncId → List AV → List (List AV) → List (List AV) → Prop) (Q : AV → List (List AV) → Prop) : awpF Try.prog (mkS Try.prog S Fr Sq ⟨[], [], [], [], []⟩ 0) 0 ⟨[0, 1, 2, 4, 5, 6, 11], [], [], []⟩ Try.f24 [f.av, .int .i64 node] [] Q = R24 f node S Fr Sq Q := by kernel_rfl
theorem s24 (f : TFeFeeder) (node : Int) (v : AV) (O : List (List AV)) (h : R24 f node (SpecOf Try.prog) (FreshOf Try.prog) (SeqOf Try.prog) (fun r O' => r = v ∧ O' = O)) : SpecOf Try.prog 24 [f.av, .int .i64 node] [] v O :=
  spec_by (boxes := []) mixed (by exact trivial) Try.func24 Try.call24 rfl rfl rfl (Nat.le_of_ble_eq_true rfl) (r24 f node (SpecOf Try.prog) (FreshOf Try.prog) (SeqOf Try.prog) _) h
theorem c24 (f : TFeFeeder) (hn : NOK f) (node : Int) : Sp 24 [f.av, .int .i64 node] [] (.tup [.agg (curR f node).1, .int .i64 (curR f node).2]) [] := s24 f node _ _ (by
  refine ⟨_, c65 f hn node, fun h => ⟨?_, rfl⟩, fun h => ?_⟩
  · have h : innerS f node ≠ 0 := by simpa using h
    rw [curR, if_pos h]; rfl
  · have h : innerS f node = 0 := by simpa using h
    obtain ⟨hf, k, rfl, hk, h0⟩ := inner_ok h
    rw [curR, if_neg (by omega)]
    exact ⟨_, _, _, _, _, _, c74 hf k hk h0, rfl, rfl⟩)
def backX {α : Type} (av : α → AV) (l : List α) : List (List AV) := l.reverse.mapIdx fun i p => [.int .i64 ((l.length : Int) - 1 - i), av p]
theorem backX_get {α : Type} {av : α → AV} {l : List α} {i : Nat} {p : α} (h : l.reverse[i]? = some p) : (backX av l)[i]? = some [.int .i64 ((l.length : Int) - 1 - i), av p] := by
  unfold backX; rw [List.getElem?_mapIdx, h]; rfl
theorem backX_len {α : Type} {av : α → AV} {l : List α} : (backX av l).length = l.length := by simp [backX]
theorem backX_at {α : Type} {av : α → AV} {l : List α} {i : Nat} {v : List AV} (h : (backX av l)[i]? = some v) : ∃ p, l.reverse[i]? = some p ∧ v = [.int .i64 ((l.length : Int) - 1 - i), av p] := by
  unfold backX at h; rw [List.getElem?_mapIdx] at h
  obtain ⟨p, hp, rfl⟩ := Option.map_eq_some_iff.1 h
  exact ⟨p, hp, rfl⟩
theorem backX_fit {α : Type} {av : α → AV} {l : List α} {sk : AV} (h : ∀ p, fitL [.int .i64 0, sk] [.int .i64 0, av p] = true ∧ (av p).tree = true) : ∀ v ∈ backX av l, fitL [.int .i64 0, sk] v = true ∧ AV.treeL v = true := by
  intro v hv
  obtain ⟨i, hi⟩ := List.mem_iff_getElem?.1 hv
  obtain ⟨p, _, rfl⟩ := backX_at hi
  have := h p
  exact ⟨this.1, by simp only [AV.treeL, AV.tree, this.2, Bool.and_true, Bool.true_and]⟩
theorem find_at {α : Type} {q : α → Bool} {l : List α} {i : Nat} {p : α} (h : l[i]? = some p) : (l.drop i).find? q = if q p then some p else (l.drop (i + 1)).find? q := by
  obtain ⟨hi, rfl⟩ := List.getElem?_eq_some_iff.1 h
  rw [List.drop_eq_getElem_cons hi, List.find?_cons]
  split <;> simp_all
theorem rev_get {α : Type} {l : List α} {i : Nat} (h : i < l.length) : ∃ p, l.reverse[i]? = some p ∧ l[l.length - 1 - i]? = some p := by
  rw [List.getElem?_reverse h, List.getElem?_eq_getElem (by omega)]
  exact ⟨_, rfl, rfl⟩
def RY129 (v0 : List TFePoint) (l : Nat) (Y : Nat → List AV → Prop) (len : Nat) : Prop :=
  ∃ (I0 : Nat → Nat → List AV → Prop), (∃ m2, I0 m2 (0 : Nat) [AV.int .i64 (IntKind.i64.wrap ((↑(List.map TFePoint.av v0).length : Int) - (1 : Int)))]) ∧ ∀ (m2 i3 : Nat) (n4 : Int), I0 m2 i3 [AV.int .i64 n4] → (decide (n4 ≥ (0 : Int)) = true → ∃ n8 n9 n10, ((0 : Int) ≤ n4 ∧ (3 : Nat) = (3 : Nat) ∧ (List.map TFePoint.av v0)[n4.toNat]? = some (AV.agg [AV.int .i64 n8, AV.int .i64 n9, AV.int .i64 n10])) ∧ l = l ∧ Y i3 [AV.int .i64 n4, AV.agg [AV.int .i64 n8, AV.int .i64 n9, AV.int .i64 n10]] ∧ (((19 : Nat) = (19 : Nat) ∧ AV.yld l = AV.yld l ∧ AV.ref (0 : Nat) (0 : Nat) = AV.ref (0 : Nat) (0 : Nat) ∧ True) ∧ [AV.slc (3 : Nat) (List.map TFePoint.av v0)] = [AV.slc (3 : Nat) (List.map TFePoint.av v0)] ∧ ∃ k17, k17 < m2 ∧ I0 k17 (i3 + (1 : Nat)) [AV.int .i64 (IntKind.i64.wrap (n4 - (1 : Int)))]) ∧ True) ∧ (decide (n4 ≥ (0 : Int)) = false → i3 = len)
theorem ry129 (v0 : List TFePoint) (l : Nat) (Y : Nat → List AV → Prop) (len : Nat) : awpS Try.prog 1 l Y ⟨[0, 1, 3, 8, 18], [⟨1, [(3, .int .i64 0)], [], [], [], []⟩], [], []⟩ Try.f129 [.ref 0 0] [⟨89, false, [.slc 3 (List.map TFePoint.av v0)]⟩] len = RY129 v0 l Y len := by kernel_rfl
theorem sq129 (v0 : List TFePoint) (xs : List (List AV)) (h : ∀ l, RY129 v0 l (fun i x => xs[i]? = some x) xs.length) : SeqOf Try.prog 129 [.ref 0 0] [[.slc 3 (List.map TFePoint.av v0)]] xs :=
  seq_by (boxes := [⟨89, false, [.slc 3 (List.map TFePoint.av v0)]⟩]) Try.func129 Try.call129 rfl rfl rfl rfl (fun l => ry129 v0 l _ _) h
theorem c129 (l : List TFePoint) (hl : l.length ≤ 1000000) : Sqf 129 [.ref 0 0] [[.slc 3 (List.map TFePoint.av l)]] (backX TFePoint.av l) := sq129 l _ (fun y => by
  unfold RY129
  simp only [List.length_map]
  rw [i64 (n := (l.length : Int) - 1) (by omega)]
  refine ⟨fun m i vs => i ≤ l.length ∧ m = l.length - i ∧ vs = [.int .i64 ((l.length : Int) - 1 - i)], ⟨_, by omega, rfl, by simp⟩, ?_⟩
  rintro m i n ⟨hi, rfl, hv⟩
  cases hv
  refine ⟨fun h => ?_, fun h => ?_⟩
  · have h : i < l.length := by simp at h; omega
    obtain ⟨p, h1, h2⟩ := rev_get h
    have e : ((l.length : Int) - 1 - i).toNat = l.length - 1 - i := by omega
    refine ⟨p.Current, p.Melt.Lo, p.Melt.Hi, ⟨by omega, trivial, by rw [e, List.getElem?_map, h2]; rfl⟩, trivial, backX_get h1, ⟨⟨trivial, trivial, trivial, trivial⟩, trivial, _, (by omega : l.length - (i + 1) < l.length - i), by omega, rfl, ?_⟩, trivial⟩
    rw [i64 (by omega)]; congr 2; omega
  · rw [backX_len]; simp at h; omega)
def meltS (x : TFeFuse) (c : Int) : TEncl × Bool :=
  match x.Points.reverse.find? (fun p => decide (p.Current ≤ c)) with
  | some p => (p.Melt, true)
  | none => (.zero, false)
def meltA (r : TEncl × Bool) : AV := .tup [r.1.av, .bool r.2]
def R76 (x : TFeFuse) (current : Int) (_S : SpecF) (_Fr : FuncId → List AV → Nat → List AV → Prop) (Sq : FuncId → List AV → List (List AV) → List (List AV) → Prop) (Q : AV → List (List AV) → Prop) : Prop :=
  ∃ xs0, Sq (129 : Nat) [AV.ref (0 : Nat) (0 : Nat)] [[AV.slc (3 : Nat) (List.map TFePoint.av x.Points)]] xs0 ∧ (∀ (x3 : List AV), x3 ∈ xs0 → fitL [AV.int .i64 (0 : Int), TFeFault.zero.av] x3 = true ∧ AV.treeL x3 = true) ∧ ∃ (I3 : Nat → List AV → Prop), I3 (0 : Nat) [TEncl.zero.av, AV.agg [AV.bool false]] ∧ (∀ (i6 : Nat) (n7 n8 n9 n10 : Int), xs0[i6]? = some [AV.int .i64 n7, AV.agg [AV.int .i64 n8, AV.int .i64 n9, AV.int .i64 n10]] → ∀ (n12 n13 : Int) (b14 : Bool), I3 i6 [AV.agg [AV.int .i64 n12, AV.int .i64 n13], AV.agg [AV.bool b14]] → (decide (n8 ≤ current) = true → Q (AV.tup [AV.agg [AV.int .i64 n9, AV.int .i64 n10], AV.bool true]) []) ∧ (decide (n8 ≤ current) = false → x.cs = x.cs ∧ [AV.int .i64 current] = [AV.int .i64 current] ∧ I3 (i6 + (1 : Nat)) [AV.agg [AV.int .i64 n12, AV.int .i64 n13], AV.agg [AV.bool b14]])) ∧ ∀ (n6 n7 : Int) (b8 : Bool), I3 xs0.length [AV.agg [AV.int .i64 n6, AV.int .i64 n7], AV.agg [AV.bool b8]] → Q (AV.tup [TEncl.zero.av, AV.bool false]) []
theorem r76 (x : TFeFuse) (current : Int) (S : SpecF) (Fr : FuncId → List AV → Nat → List AV → Prop) (Sq : FuncId → List AV → List (List AV) → List (List AV) → Prop) (Q : AV → List (List AV) → Prop) : awpF Try.prog (mkS Try.prog S Fr Sq ⟨[], [], [], [(112, ⟨[0, 1, 2], [], [], []⟩)], []⟩ 4) 0 ⟨[0, 1, 2, 3, 4, 5, 7, 10, 11, 12, 16], [⟨3, [], [], [(4, .agg [.int .i64 0, .int .i64 0]), (5, .agg [.bool false])], [], [.int .i64 0, .agg [.int .i64 0, .int .i64 0, .int .i64 0]]⟩], [], []⟩ Try.f76 [x.av, .int .i64 current] [] Q = R76 x current S Fr Sq Q := by kernel_rfl
theorem s76 (x : TFeFuse) (current : Int) (v : AV) (O : List (List AV)) (h : R76 x current (SpecOf Try.prog) (FreshOf Try.prog) (SeqOf Try.prog) (fun r O' => r = v ∧ O' = O)) : SpecOf Try.prog 76 [x.av, .int .i64 current] [] v O :=
  spec_by (boxes := []) mixed (by exact ⟨Try.call112, trivial⟩) Try.func76 Try.call76 rfl rfl rfl (Nat.le_of_ble_eq_true rfl) (r76 x current (SpecOf Try.prog) (FreshOf Try.prog) (SeqOf Try.prog) _) h
theorem c76 (x : TFeFuse) (c : Int) (hl : x.Points.length ≤ 1000000) : Sp 76 [x.av, .int .i64 c] [] (meltA (meltS x c)) [] := s76 x c _ _ (by
  unfold R76
  refine ⟨_, c129 x.Points hl, ?_, ?_⟩
  · exact backX_fit fun p => ⟨rfl, rfl⟩
  refine ⟨fun i vs => vs = [TEncl.zero.av, .agg [.bool false]] ∧ (x.Points.reverse.drop i).find? (fun p => decide (p.Current ≤ c)) = x.Points.reverse.find? (fun p => decide (p.Current ≤ c)), ⟨rfl, rfl⟩, ?_, ?_⟩
  · rintro i n n1 n2 n3 hi m1 m2 b ⟨hv, hd⟩
    obtain ⟨p, hp, he⟩ := backX_at hi
    cases he
    cases hv
    rw [find_at hp] at hd
    refine ⟨fun h => ⟨?_, rfl⟩, fun h => ⟨rfl, rfl, rfl, ?_⟩⟩
    · rw [if_pos h] at hd
      rw [meltS, ← hd]; rfl
    · rw [← hd, if_neg (by rw [h]; simp)]
  · rintro n1 n2 b ⟨hv, hd⟩
    rw [backX_len, List.drop_of_length_le (by simp)] at hd
    refine ⟨?_, rfl⟩
    rw [meltS, ← hd]; rfl)
end Go.Proofs.Ytbdbnpnichkcjaa
namespace Go.Proofs.Ytbdbnpnichkcjaa
open Go.RowKit
def fz (f : TFeFeeder) (i : Nat) : TFeFuse := f.Fuses.getD (nd f i).Fuse.toNat .zero
theorem fz_get {f : TFeFeeder} (hf : OK f) {i : Nat} (h : i < f.Nodes.length) (h0 : i ≠ 0) (hz : 0 ≤ (nd f i).Fuse) : f.Fuses[(nd f i).Fuse.toNat]? = some (fz f i) := by
  have := (node_ok hf h h0).fuse
  unfold fz; rw [List.getD, List.getElem?_eq_getElem (by omega)]; rfl
theorem fz_av {f : TFeFeeder} (hf : OK f) {i : Nat} (h : i < f.Nodes.length) (h0 : i ≠ 0) (hz : 0 ≤ (nd f i).Fuse) : (List.map TFeFuse.av f.Fuses)[(nd f i).Fuse.toNat]? = some (fz f i).av := by
  rw [List.getElem?_map, fz_get hf h h0 hz]; rfl
structure FuseOK (x : TFeFuse) : Prop where
  len : 1 ≤ x.Points.length ∧ x.Points.length ≤ 8
  rated : 1 ≤ x.Rated ∧ x.Rated ≤ 100000000
  pts : ∀ p ∈ x.Points, (1 ≤ p.Current ∧ p.Current ≤ 100000000) ∧ 1 ≤ p.Melt.Lo ∧ p.Melt.Lo ≤ p.Melt.Hi ∧ p.Melt.Hi ≤ 100000000
  steps : stepsS x.Points = 0
theorem fuse_ok {f : TFeFeeder} (hf : OK f) {k : Nat} {x : TFeFuse} (hx : f.Fuses[k]? = some x) : FuseOK x := by
  have hk : k < f.Fuses.length := (List.getElem?_eq_some_iff.1 hx).1
  have h1 := errAt_rest hx (hf.fuses k hk)
  unfold curveS at h1
  split at h1
  · cases h1
  rename_i h2
  split at h1
  · cases h1
  rename_i h3
  simp only [Bool.not_eq_true', Bool.not_eq_false] at h2
  simp only [Bool.not_eq_true, Bool.or_eq_false_iff, Bool.not_eq_false'] at h3
  have g2 := inB_iff.1 h2
  refine ⟨by omega, inB_iff.1 h3.1, fun p hp => ?_, h1⟩
  have := List.any_eq_false.1 h3.2 p hp
  simp only [wildP, Bool.not_eq_true, Bool.not_eq_false', Bool.and_eq_true] at this
  exact ⟨inB_iff.1 this.1, wiB_iff.1 this.2⟩
/-- The greatest of three. -/
def mx3 (a b c : Int) : Int := if c > (if b > a then b else a) then c else (if b > a then b else a)
theorem mx3_eq {a b c : Int} : mx3 a b c = max (max a b) c := by
  unfold mx3; rw [Int.max_def, Int.max_def]; repeat' split
  all_goals omega
def besS (f : TFeFeeder) (i : Nat) : Int := mx3 (curE f TFeNode.Loads0 i).Hi (curE f TFeNode.Loads1 i).Hi (curE f TFeNode.Loads2 i).Hi
theorem bes_bound {f : TFeFeeder} (hf : OK f) (i : Nat) : 0 ≤ besS f i ∧ besS f i ≤ 40000000 := by
  have h0 := curE_ok hf _ (.inl rfl) i
  have h1 := curE_ok hf _ (.inr (.inl rfl)) i
  have h2 := curE_ok hf _ (.inr (.inr rfl)) i
  unfold besS mx3; repeat' split
  all_goals omega
def guardS (f : TFeFeeder) (i : Nat) : TGuard := ⟨i, fz f i, besS f i⟩
def hasF (f : TFeFeeder) (i : Nat) : Bool := decide (0 ≤ (nd f i).Fuse)
def guardsL (f : TFeFeeder) (l : List Nat) : List TGuard := (l.filter (hasF f)).map (guardS f)
theorem guards_take {f : TFeFeeder} {l : List Nat} {i x : Nat} (h : l[i]? = some x) : guardsL f (l.take (i + 1)) = guardsL f (l.take i) ++ (if hasF f x then [guardS f x] else []) := by
  unfold guardsL
  rw [List.take_add_one, h, List.filter_append, List.map_append]
  congr 1
  simp only [Option.toList, List.filter_cons, List.filter_nil]
  split <;> rfl
theorem flat_map {α : Type} {f : α → AV} {g : α → List AV} {k : Nat} (hf : ∀ x, f x = .agg (g x)) (hk : ∀ x, (g x).length = k) (ho : ∀ x, ones (g x) = true) (s : List α) :
    elemsOf k (s.map f) ∧ ((s.map f).flatMap AV.cells).length = s.length * k ∧ ones ((s.map f).flatMap AV.cells) = true ∧ chunkA k s.length ((s.map f).flatMap AV.cells) = s.map f := by
  induction s with
  | nil => exact ⟨by intro v hv; simp at hv, by simp, rfl, rfl⟩
  | cons x r ih =>
    obtain ⟨h1, h2, h3, h4⟩ := ih
    refine ⟨fun v hv => ?_, ?_, ?_, ?_⟩
    · rcases List.mem_cons.1 hv with rfl | hv
      · rw [hf]; exact hk x
      · exact h1 v hv
    · simp only [List.map_cons, List.flatMap_cons, List.length_append, h2, hf, AV.cells, hk, List.length_cons, Nat.succ_mul, Nat.add_comm]
    · simp only [List.map_cons, List.flatMap_cons, hf, AV.cells, ones, List.all_append, Bool.and_eq_true]
      exact ⟨ho x, h3⟩
    · simp only [List.map_cons, List.flatMap_cons, List.length_cons, hf, AV.cells, chunkA]
      rw [List.take_append_of_le_length (by rw [hk]; exact Nat.le_refl _), List.take_of_length_le (by rw [hk]; exact Nat.le_refl _), List.drop_append_of_le_length (by rw [hk]; exact Nat.le_refl _), List.drop_of_length_le (by rw [hk]; exact Nat.le_refl _), List.nil_append, h4]
theorem flatG (s : List TGuard) : elemsOf 5 (s.map TGuard.av) ∧ ((s.map TGuard.av).flatMap AV.cells).length = s.length * 5 ∧ ones ((s.map TGuard.av).flatMap AV.cells) = true ∧ chunkA 5 s.length ((s.map TGuard.av).flatMap AV.cells) = s.map TGuard.av :=
  flat_map (f := TGuard.av) (g := TGuard.cs) (k := 5) (fun _ => rfl) (fun _ => rfl) (fun _ => rfl) s
theorem cells118 : Try.prog.cellsOf 118 = 5 := by kernel_rfl
theorem agg118 : isAggT Try.prog 118 = true := by kernel_rfl
theorem upL_len40 {f : TFeFeeder} (hf : OK f) {node : Nat} (h : node < f.Nodes.length) : (upL f node).length ≤ 40 := by
  have := upL_len hf h; have := hf.nn; omega
theorem guards_len {f : TFeFeeder} {l : List Nat} : (guardsL f l).length ≤ l.length := by
  unfold guardsL; rw [List.length_map]; exact List.length_filter_le _ _
def R78 (f : TFeFeeder) (node : Int) (S : SpecF) (_Fr : FuncId → List AV → Nat → List AV → Prop) (Sq : FuncId → List AV → List (List AV) → List (List AV) → Prop) (Q : AV → List (List AV) → Prop) : Prop :=
  ∃ xs0, Sq (125 : Nat) [AV.ref (0 : Nat) (0 : Nat), AV.ref (1 : Nat) (0 : Nat)] [[AV.int .i64 node], f.cs] xs0 ∧ (∀ (x3 : List AV), x3 ∈ xs0 → fitL [AV.int .i64 (0 : Int)] x3 = true ∧ AV.treeL x3 = true) ∧ ∃ (I3 : Nat → List AV → Prop), I3 (0 : Nat) [AV.slc (3 : Nat) []] ∧ (∀ (i6 : Nat) (n7 : Int), xs0[i6]? = some [AV.int .i64 n7] → ∀ (es9 : List AV), I3 i6 [AV.slc (3 : Nat) es9] → ∃ s11 n12 n13 n14 n15 n16 n17 n18 n19 n20 n21, ((0 : Int) ≤ n7 ∧ (11 : Nat) = (11 : Nat) ∧ (List.map TFeNode.av f.Nodes)[n7.toNat]? = some (AV.agg [AV.str s11, AV.int .i64 n12, AV.int .i64 n13, AV.int .i64 n14, AV.int .i64 n15, AV.int .i64 n16, AV.int .i64 n17, AV.int .i64 n18, AV.int .i64 n19, AV.int .i64 n20, AV.int .i64 n21])) ∧ (decide (n15 ≥ (0 : Int)) = true → ∃ n25 n26 n27 n28 n29 n30, S (74 : Nat) [f.av, AV.int .i64 n7] [] (AV.agg [AV.int .i64 n25, AV.int .i64 n26, AV.int .i64 n27, AV.int .i64 n28, AV.int .i64 n29, AV.int .i64 n30]) [] ∧ ∃ s32 n33 es34, ((0 : Int) ≤ n15 ∧ (3 : Nat) = (3 : Nat) ∧ (List.map TFeFuse.av f.Fuses)[n15.toNat]? = some (AV.agg [AV.str s32, AV.int .i64 n33, AV.slc (3 : Nat) es34])) ∧ elemsOf (5 : Nat) [AV.agg [AV.int .i64 n7, AV.str s32, AV.int .i64 n33, AV.slc (3 : Nat) es34, AV.int .i64 (if n30 > if true = true then if n28 > n26 then n28 else n26 else if n28 < n26 then n28 else n26 then n30 else if n28 > n26 then n28 else n26)]] ∧ ((List.flatMap AV.cells es9).length = es9.length * Try.prog.cellsOf (118 : Nat) ∧ (es9.length + (1 : Nat) + (512 : Nat)) * (321 : Nat) ≤ (1125899906842624 : Nat) ∧ ones [AV.int .i64 n7, AV.str s32, AV.int .i64 n33, AV.slc (3 : Nat) es34, AV.int .i64 (if n30 > if true = true then if n28 > n26 then n28 else n26 else if n28 < n26 then n28 else n26 then n30 else if n28 > n26 then n28 else n26)] = true ∧ ones (List.flatMap AV.cells es9) = true) ∧ f.cs = f.cs ∧ [AV.undef] = [AV.undef] ∧ ∃ es40, (es40.length = es9.length + (1 : Nat) ∧ List.flatMap AV.cells es40 = List.flatMap AV.cells es9 ++ [AV.int .i64 n7, AV.str s32, AV.int .i64 n33, AV.slc (3 : Nat) es34, AV.int .i64 (if n30 > if true = true then if n28 > n26 then n28 else n26 else if n28 < n26 then n28 else n26 then n30 else if n28 > n26 then n28 else n26)]) ∧ I3 (i6 + (1 : Nat)) [AV.slc (3 : Nat) es40]) ∧ (decide (n15 ≥ (0 : Int)) = false → f.cs = f.cs ∧ [AV.undef] = [AV.undef] ∧ ∃ es27, (es27.length = es9.length ∧ List.flatMap AV.cells es27 = List.flatMap AV.cells es9) ∧ I3 (i6 + (1 : Nat)) [AV.slc (3 : Nat) es27])) ∧ ∀ (es6 : List AV), I3 xs0.length [AV.slc (3 : Nat) es6] → (0 : Nat) + es6.length * Try.prog.cellsOf (118 : Nat) ≤ (List.flatMap AV.cells es6).length ∧ Q (AV.slc (3 : Nat) (chunks (Try.prog.cellsOf (118 : Nat)) (isAggT Try.prog (118 : Nat)) es6.length (List.drop (0 : Nat) (List.flatMap AV.cells es6)))) []
theorem r78 (f : TFeFeeder) (node : Int) (S : SpecF) (Fr : FuncId → List AV → Nat → List AV → Prop) (Sq : FuncId → List AV → List (List AV) → List (List AV) → Prop) (Q : AV → List (List AV) → Prop) : awpF Try.prog (mkS Try.prog S Fr Sq ⟨[], [], [74], [(104, ⟨[0, 1, 2, 3, 4], [], [], []⟩)], []⟩ 4) 0 ⟨[0, 1, 2, 4, 5, 6, 7, 8, 11, 12, 20], [⟨4, [], [], [], [(5, 0, 118)], [.int .i64 0]⟩], [], []⟩ Try.f78 [f.av, .int .i64 node] [] Q = R78 f node S Fr Sq Q := by kernel_rfl
theorem s78 (f : TFeFeeder) (node : Int) (v : AV) (O : List (List AV)) (h : R78 f node (SpecOf Try.prog) (FreshOf Try.prog) (SeqOf Try.prog) (fun r O' => r = v ∧ O' = O)) : SpecOf Try.prog 78 [f.av, .int .i64 node] [] v O :=
  spec_by (boxes := []) mixed (by exact ⟨Try.call104, trivial⟩) Try.func78 Try.call78 rfl rfl rfl (Nat.le_of_ble_eq_true rfl) (r78 f node (SpecOf Try.prog) (FreshOf Try.prog) (SeqOf Try.prog) _) h
theorem c78 {f : TFeFeeder} (hf : OK f) (node : Nat) (h : node < f.Nodes.length) : Sp 78 [f.av, .int .i64 node] [] (.slc 3 ((guardsL f (upL f node)).map TGuard.av)) [] := s78 f node _ _ (by
  unfold R78
  refine ⟨_, c125 hf node h, fit_up, ?_⟩
  have hlen := upL_len40 hf h
  refine ⟨fun i vs => vs = [.slc 3 ((guardsL f ((upL f node).take i)).map TGuard.av)], rfl, ?_, ?_⟩
  · intro i n hi es hv
    obtain ⟨x, rfl, hx⟩ := up_at hi
    cases hv
    obtain ⟨h0, hlt, _⟩ := upL_mem hf h (List.mem_of_getElem? hx)
    obtain ⟨f1, f2, f3, f4⟩ := flatG (guardsL f ((upL f node).take i))
    have gl : (guardsL f ((upL f node).take i)).length ≤ 40 := Nat.le_trans guards_len (by rw [List.length_take]; omega)
    refine ⟨(nd f x).Name, (nd f x).Parent, (nd f x).Cable, (nd f x).Length, (nd f x).Fuse, (nd f x).Loads0.Lo, (nd f x).Loads0.Hi, (nd f x).Loads1.Lo, (nd f x).Loads1.Hi, (nd f x).Loads2.Lo, (nd f x).Loads2.Hi, ⟨by omega, rfl, nd_av hlt⟩, fun hz => ?_, fun hz => ?_⟩
    · have hz' : 0 ≤ (nd f x).Fuse := by simpa using hz
      have hh : hasF f x = true := hz
      refine ⟨_, _, _, _, _, _, c74 hf x hlt h0, (fz f x).Name, (fz f x).Rated, List.map TFePoint.av (fz f x).Points, ⟨hz', rfl, fz_av hf hlt h0 hz'⟩, ?_, ⟨?_, ?_, rfl, f3⟩, rfl, rfl, ((guardsL f ((upL f node).take (i + 1))).map TGuard.av), ⟨?_, ?_⟩, rfl⟩
      · intro v hv
        rw [List.mem_singleton] at hv
        rw [hv]; rfl
      · rw [cells118, List.length_map]; exact f2
      · rw [List.length_map]; omega
      · rw [guards_take hx, if_pos hh]; simp
      · rw [guards_take hx, if_pos hh, List.map_append, List.flatMap_append]; rfl
    · have hh : hasF f x = false := hz
      refine ⟨rfl, rfl, ((guardsL f ((upL f node).take (i + 1))).map TGuard.av), ⟨?_, ?_⟩, rfl⟩ <;> rw [guards_take hx, if_neg (by rw [hh]; simp), List.append_nil]
  · intro es hv
    rw [List.length_map, List.take_length] at hv
    cases hv
    obtain ⟨f1, f2, f3, f4⟩ := flatG (guardsL f (upL f node))
    refine ⟨by rw [cells118, f2, List.length_map]; omega, ?_, rfl⟩
    rw [cells118, agg118]; simp only [chunks, if_true, List.drop_zero, List.length_map]; rw [f4])
def beatsB (g o : TGuard) (c : Int) : Bool := !(meltS o.fuse (c + o.besides)).2 || decide ((meltS g.fuse c).1.Hi < (meltS o.fuse (c + o.besides)).1.Lo)
structure GOK (g : TGuard) : Prop where
  fuse : FuseOK g.fuse
  bes : 0 ≤ g.besides ∧ g.besides ≤ 40000000
def R80 (g : TGuard) (other : TGuard) (current : Int) (S : SpecF) (_Fr : FuncId → List AV → Nat → List AV → Prop) (_Sq : FuncId → List AV → List (List AV) → List (List AV) → Prop) (Q : AV → List (List AV) → Prop) : Prop :=
  ∃ n0 n1 b2, S (76 : Nat) [g.fuse.av, AV.int .i64 current] [] (AV.tup [AV.agg [AV.int .i64 n0, AV.int .i64 n1], AV.bool b2]) [] ∧ ∃ n4 n5 b6, S (76 : Nat) [other.fuse.av, AV.int .i64 (IntKind.i64.wrap (current + other.besides))] [] (AV.tup [AV.agg [AV.int .i64 n4, AV.int .i64 n5], AV.bool b6]) [] ∧ ((!b6) = true → Q (AV.bool true) []) ∧ ((!b6) = false → Q (AV.bool (decide (n1 < n4))) [])
theorem r80 (g : TGuard) (other : TGuard) (current : Int) (S : SpecF) (Fr : FuncId → List AV → Nat → List AV → Prop) (Sq : FuncId → List AV → List (List AV) → List (List AV) → Prop) (Q : AV → List (List AV) → Prop) : awpF Try.prog (mkS Try.prog S Fr Sq ⟨[], [], [], [], []⟩ 0) 0 ⟨[0, 1, 2, 3, 4, 6, 7, 9, 10], [], [], []⟩ Try.f80 [g.av, other.av, .int .i64 current] [] Q = R80 g other current S Fr Sq Q := by kernel_rfl
theorem s80 (g : TGuard) (other : TGuard) (current : Int) (v : AV) (O : List (List AV)) (h : R80 g other current (SpecOf Try.prog) (FreshOf Try.prog) (SeqOf Try.prog) (fun r O' => r = v ∧ O' = O)) : SpecOf Try.prog 80 [g.av, other.av, .int .i64 current] [] v O :=
  spec_by (boxes := []) mixed (by exact trivial) Try.func80 Try.call80 rfl rfl rfl (Nat.le_of_ble_eq_true rfl) (r80 g other current (SpecOf Try.prog) (FreshOf Try.prog) (SeqOf Try.prog) _) h
theorem c80 (g o : TGuard) (c : Int) (hg : GOK g) (ho : GOK o) (hc : -2000000000000 ≤ c ∧ c ≤ 2000000000000) : Sp 80 [g.av, o.av, .int .i64 c] [] (.bool (beatsB g o c)) [] := s80 g o c _ _ (by
  have e : IntKind.i64.wrap (c + o.besides) = c + o.besides := i64 (by have := ho.bes; omega)
  unfold R80; rw [e]
  refine ⟨_, _, _, c76 g.fuse c (by have := hg.fuse.len; omega), _, _, _, c76 o.fuse (c + o.besides) (by have := ho.fuse.len; omega), fun h => ⟨?_, rfl⟩, fun h => ⟨?_, rfl⟩⟩
  · rw [beatsB, h]; rfl
  · rw [beatsB, h]; rfl)
def R79 (other : TGuard) (v0 : TGuard) (v1 : Int) (S : SpecF) (_Fr : FuncId → List AV → Nat → List AV → Prop) (_Sq : FuncId → List AV → List (List AV) → List (List AV) → Prop) (Q : AV → List (List AV) → Prop) : Prop :=
  ∃ b0, S (80 : Nat) [v0.av, other.av, AV.int .i64 v1] [] (AV.bool b0) [] ∧ Q (AV.bool !b0) [v0.cs, [AV.int .i64 v1]]
theorem r79 (other : TGuard) (v0 : TGuard) (v1 : Int) (S : SpecF) (Fr : FuncId → List AV → Nat → List AV → Prop) (Sq : FuncId → List AV → List (List AV) → List (List AV) → Prop) (Q : AV → List (List AV) → Prop) : awpF Try.prog (mkS Try.prog S Fr Sq ⟨[], [], [], [], []⟩ 0) 2 ⟨[0, 1, 2, 3, 4], [], [], []⟩ Try.f79 [other.av, .ref 0 0, .ref 1 0] [⟨118, false, v0.cs⟩, ⟨3, false, [.int .i64 v1]⟩] Q = R79 other v0 v1 S Fr Sq Q := by kernel_rfl
theorem s79 (other : TGuard) (v0 : TGuard) (v1 : Int) (v : AV) (O : List (List AV)) (h : R79 other v0 v1 (SpecOf Try.prog) (FreshOf Try.prog) (SeqOf Try.prog) (fun r O' => r = v ∧ O' = O)) : SpecOf Try.prog 79 [other.av, .ref 0 0, .ref 1 0] [v0.cs, [.int .i64 v1]] v O :=
  spec_by (boxes := [⟨118, false, v0.cs⟩, ⟨3, false, [.int .i64 v1]⟩]) mixed (by exact trivial) Try.func79 Try.call79 rfl rfl rfl (Nat.le_of_ble_eq_true rfl) (r79 other v0 v1 (SpecOf Try.prog) (FreshOf Try.prog) (SeqOf Try.prog) _) h
theorem c79 (o g : TGuard) (c : Int) (hg : GOK g) (ho : GOK o) (hc : -2000000000000 ≤ c ∧ c ≤ 2000000000000) : Sp 79 [o.av, .ref 0 0, .ref 1 0] [g.cs, [.int .i64 c]] (.bool (!beatsB g o c)) [g.cs, [.int .i64 c]] := s79 o g c _ _ ⟨_, c80 g o c hg ho hc, rfl, rfl⟩
def R113 (s : List TGuard) (f0 : TGuard) (f1 : Int) (S : SpecF) (_Fr : FuncId → List AV → Nat → List AV → Prop) (_Sq : FuncId → List AV → List (List AV) → List (List AV) → Prop) (Q : AV → List (List AV) → Prop) : Prop :=
  ∃ (I0 : Nat → List AV → Prop), (∃ m2, I0 m2 [AV.int .i64 (0 : Int), f0.av]) ∧ ∀ (m2 : Nat) (n3 n4 : Int) (s5 : ByteArray) (n6 : Int) (es7 : List AV) (n8 : Int), I0 m2 [AV.int .i64 n3, AV.agg [AV.int .i64 n4, AV.str s5, AV.int .i64 n6, AV.slc (3 : Nat) es7, AV.int .i64 n8]] → (decide (n3 < (↑(List.map TGuard.av s).length : Int)) = true → ∃ n12 s13 n14 es15 n16, ((0 : Int) ≤ n3 ∧ (5 : Nat) = (5 : Nat) ∧ (List.map TGuard.av s)[n3.toNat]? = some (AV.agg [AV.int .i64 n12, AV.str s13, AV.int .i64 n14, AV.slc (3 : Nat) es15, AV.int .i64 n16])) ∧ ∃ b18, S (79 : FuncId) [AV.agg [AV.int .i64 n12, AV.str s13, AV.int .i64 n14, AV.slc (3 : Nat) es15, AV.int .i64 n16], AV.ref (0 : Nat) (0 : Nat), AV.ref (1 : Nat) (0 : Nat)] [[AV.int .i64 n4, AV.str s5, AV.int .i64 n6, AV.slc (3 : Nat) es7, AV.int .i64 n8], [AV.int .i64 f1]] (AV.bool b18) [[AV.int .i64 n4, AV.str s5, AV.int .i64 n6, AV.slc (3 : Nat) es7, AV.int .i64 n8], [AV.int .i64 f1]] ∧ (b18 = true → Q (AV.int .i64 n3) [[AV.int .i64 n4, AV.str s5, AV.int .i64 n6, AV.slc (3 : Nat) es7, AV.int .i64 n8], [AV.int .i64 f1]]) ∧ (b18 = false → [AV.int .i64 f1] = [AV.int .i64 f1] ∧ ∃ k23, k23 < m2 ∧ I0 k23 [AV.int .i64 (IntKind.i64.wrap (n3 + (1 : Int))), AV.agg [AV.int .i64 n4, AV.str s5, AV.int .i64 n6, AV.slc (3 : Nat) es7, AV.int .i64 n8]])) ∧ (decide (n3 < (↑(List.map TGuard.av s).length : Int)) = false → Q (AV.int .i64 (-1 : Int)) [[AV.int .i64 n4, AV.str s5, AV.int .i64 n6, AV.slc (3 : Nat) es7, AV.int .i64 n8], [AV.int .i64 f1]])
theorem r113 (s : List TGuard) (f0 : TGuard) (f1 : Int) (S : SpecF) (Fr : FuncId → List AV → Nat → List AV → Prop) (Sq : FuncId → List AV → List (List AV) → List (List AV) → Prop) (Q : AV → List (List AV) → Prop) : awpF Try.prog (mkS Try.prog S Fr Sq ⟨[], [], [79], [], []⟩ 0) 2 ⟨[0, 1, 4, 5, 7, 8, 9, 16], [⟨2, [(8, .int .i64 0)], [], [(1000000, .agg [.int .i64 0, .str default, .int .i64 0, .slc 3 [], .int .i64 0])], [], []⟩], [], []⟩ Try.f113 [.slc 3 (List.map TGuard.av s), .fn 79 [] [.ref 0 0, .ref 1 0]] [⟨118, false, f0.cs⟩, ⟨3, false, [.int .i64 f1]⟩] Q = R113 s f0 f1 S Fr Sq Q := by kernel_rfl
theorem s113 (s : List TGuard) (f0 : TGuard) (f1 : Int) (v : AV) (O : List (List AV)) (h : R113 s f0 f1 (SpecOf Try.prog) (FreshOf Try.prog) (SeqOf Try.prog) (fun r O' => r = v ∧ O' = O)) : SpecOf Try.prog 113 [.slc 3 (List.map TGuard.av s), .fn 79 [] [.ref 0 0, .ref 1 0]] [f0.cs, [.int .i64 f1]] v O :=
  spec_by (boxes := [⟨118, false, f0.cs⟩, ⟨3, false, [.int .i64 f1]⟩]) mixed (by exact trivial) Try.func113 Try.call113 rfl rfl rfl (Nat.le_of_ble_eq_true rfl) (r113 s f0 f1 (SpecOf Try.prog) (FreshOf Try.prog) (SeqOf Try.prog) _) h
theorem c113 (s : List TGuard) (g : TGuard) (c : Int) (hl : s.length ≤ 1000000) (hg : GOK g) (hs : ∀ o ∈ s, GOK o) (hc : -2000000000000 ≤ c ∧ c ≤ 2000000000000) : Sp 113 [.slc 3 (List.map TGuard.av s), .fn 79 [] [.ref 0 0, .ref 1 0]] [g.cs, [.int .i64 c]] (.int .i64 (idxP (fun o => !beatsB g o c) 0 s)) [g.cs, [.int .i64 c]] := s113 s g c _ _ (by
  refine ⟨fun m vs => ∃ n : Nat, vs = [.int .i64 n, g.av] ∧ n ≤ s.length ∧ m = s.length - n ∧ idxP (fun o => !beatsB g o c) n (s.drop n) = idxP (fun o => !beatsB g o c) 0 s, ⟨_, 0, rfl, by omega, rfl, rfl⟩, ?_⟩
  rintro m n n1 n2 n3 n4 n5 ⟨k, hk, hle, rfl, hn⟩
  cases hk
  refine ⟨fun h3 => ?_, fun h3 => ⟨?_, rfl⟩⟩
  · have h3 : k < s.length := by simpa using h3
    obtain ⟨x, hx, hx'⟩ := map_getN (f := TGuard.av) h3
    have hat := idxP_at (p := fun o => !beatsB g o c) hx
    refine ⟨x.node, x.fuse.Name, x.fuse.Rated, List.map TFePoint.av x.fuse.Points, x.besides, ⟨by omega, rfl, hx'⟩, _, c79 x g c hg (hs x (List.mem_of_getElem? hx)) hc, fun h4 => ⟨?_, rfl⟩, fun h4 => ⟨rfl, _, ?_, k + 1, ?_, by omega, rfl, ?_⟩⟩
    · rw [← hn, hat, if_pos h4]
    · omega
    · rw [wrapN (by omega)]; rfl
    · rw [← hn, hat, if_neg (by rw [h4]; simp)]
  · have : k = s.length := by simp at h3; omega
    rw [← hn, this, List.drop_length]; rfl)
def R81 (s : List TGuard) (f0 : TGuard) (f1 : Int) (S : SpecF) (_Fr : FuncId → List AV → Nat → List AV → Prop) (_Sq : FuncId → List AV → List (List AV) → List (List AV) → Prop) (Q : AV → List (List AV) → Prop) : Prop :=
  ∃ n0, S (113 : Nat) [AV.slc (3 : Nat) (List.map TGuard.av s), AV.fn (79 : FuncId) [] [AV.ref (0 : Nat) (0 : Nat), AV.ref (1 : Nat) (0 : Nat)]] [f0.cs, [AV.int .i64 f1]] (AV.int .i64 n0) [f0.cs, [AV.int .i64 f1]] ∧ Q (AV.bool (decide (n0 ≥ (0 : Int)))) [f0.cs, [AV.int .i64 f1]]
theorem r81 (s : List TGuard) (f0 : TGuard) (f1 : Int) (S : SpecF) (Fr : FuncId → List AV → Nat → List AV → Prop) (Sq : FuncId → List AV → List (List AV) → List (List AV) → Prop) (Q : AV → List (List AV) → Prop) : awpF Try.prog (mkS Try.prog S Fr Sq ⟨[], [], [113], [], []⟩ 0) 2 ⟨[0, 1, 4], [], [], []⟩ Try.f81 [.slc 3 (List.map TGuard.av s), .fn 79 [] [.ref 0 0, .ref 1 0]] [⟨118, false, f0.cs⟩, ⟨3, false, [.int .i64 f1]⟩] Q = R81 s f0 f1 S Fr Sq Q := by kernel_rfl
theorem s81 (s : List TGuard) (f0 : TGuard) (f1 : Int) (v : AV) (O : List (List AV)) (h : R81 s f0 f1 (SpecOf Try.prog) (FreshOf Try.prog) (SeqOf Try.prog) (fun r O' => r = v ∧ O' = O)) : SpecOf Try.prog 81 [.slc 3 (List.map TGuard.av s), .fn 79 [] [.ref 0 0, .ref 1 0]] [f0.cs, [.int .i64 f1]] v O :=
  spec_by (boxes := [⟨118, false, f0.cs⟩, ⟨3, false, [.int .i64 f1]⟩]) mixed (by exact trivial) Try.func81 Try.call81 rfl rfl rfl (Nat.le_of_ble_eq_true rfl) (r81 s f0 f1 (SpecOf Try.prog) (FreshOf Try.prog) (SeqOf Try.prog) _) h
theorem c81 (s : List TGuard) (g : TGuard) (c : Int) (hl : s.length ≤ 1000000) (hg : GOK g) (hs : ∀ o ∈ s, GOK o) (hc : -2000000000000 ≤ c ∧ c ≤ 2000000000000) : Sp 81 [.slc 3 (List.map TGuard.av s), .fn 79 [] [.ref 0 0, .ref 1 0]] [g.cs, [.int .i64 c]] (.bool (s.any fun o => !beatsB g o c)) [g.cs, [.int .i64 c]] := s81 s g c _ _ (by
  refine ⟨_, c113 s g c hl hg hs hc, ?_, rfl⟩
  rw [idxP_ge])
theorem guard_ok {f : TFeFeeder} (hf : OK f) {i : Nat} (h : i < f.Nodes.length) (h0 : i ≠ 0) (hz : hasF f i = true) : GOK (guardS f i) :=
  ⟨fuse_ok hf (fz_get hf h h0 (by simpa [hasF] using hz)), bes_bound hf i⟩
theorem guards_ok {f : TFeFeeder} (hf : OK f) {node : Nat} (h : node < f.Nodes.length) : ∀ g ∈ guardsL f (upL f node), GOK g := by
  intro g hg
  unfold guardsL at hg
  obtain ⟨i, hi, rfl⟩ := List.mem_map.1 hg
  obtain ⟨h1, h2⟩ := List.mem_filter.1 hi
  obtain ⟨h0, hlt, _⟩ := upL_mem hf h h1
  exact guard_ok hf hlt h0 h2
/-- The first protection that certainly opens first, among the rest of a list. -/
def certB (l : List TGuard) (c : Int) (i : Nat) (g : TGuard) : Bool := (meltS g.fuse c).2 && !((l.take i).any fun o => !beatsB g o c) && !((l.drop (i + 1)).any fun o => !beatsB g o c)
def firstG (l : List TGuard) (c : Int) : Nat → List TGuard → Int
  | _, [] => -1
  | i, g :: r => if certB l c i g then g.node else firstG l c (i + 1) r
theorem firstG_at {l : List TGuard} {c : Int} {k : Nat} {g : TGuard} (h : l[k]? = some g) : firstG l c k (l.drop k) = if certB l c k g then g.node else firstG l c (k + 1) (l.drop (k + 1)) := by
  obtain ⟨hk, rfl⟩ := List.getElem?_eq_some_iff.1 h
  rw [List.drop_eq_getElem_cons hk]; rfl
def firstR (f : TFeFeeder) (node c : Int) : Int × Int := if askedS f node ≠ 0 then (0, askedS f node) else if !inB c 0 1000000000 then (0, 7) else (firstG (guardsL f (upL f node.toNat)) c 0 (guardsL f (upL f node.toNat)), 0)
def R31 (f : TFeFeeder) (node : Int) (current : Int) (S : SpecF) (_Fr : FuncId → List AV → Nat → List AV → Prop) (_Sq : FuncId → List AV → List (List AV) → List (List AV) → Prop) (Q : AV → List (List AV) → Prop) : Prop :=
  ∃ n0, S (61 : Nat) [f.av, AV.int .i64 node] [] (AV.int .i64 n0) [] ∧ ((n0 != (0 : Int)) = true → Q (AV.tup [AV.int .i64 (0 : Int), AV.int .i64 n0]) []) ∧ ((n0 != (0 : Int)) = false → ∃ b4, S (43 : Nat) [AV.int .i64 current, AV.int .i64 (0 : Int), AV.int .i64 (1000000000 : Int)] [] (AV.bool b4) [] ∧ ((!b4) = true → Q (AV.tup [AV.int .i64 (0 : Int), AV.int .i64 (7 : Int)]) []) ∧ ((!b4) = false → ∃ es8, S (78 : Nat) [f.av, AV.int .i64 node] [] (AV.slc (3 : Nat) es8) [] ∧ ∃ (I10 : Nat → List AV → Prop), (∃ m12, I10 m12 [AV.int .i64 (0 : Int), AV.agg [AV.int .i64 current]]) ∧ ∀ (m12 : Nat) (n13 n14 : Int), I10 m12 [AV.int .i64 n13, AV.agg [AV.int .i64 n14]] → (decide (n13 < (↑es8.length : Int)) = true → ∃ n18 s19 n20 es21 n22, ((0 : Int) ≤ n13 ∧ (5 : Nat) = (5 : Nat) ∧ es8[n13.toNat]? = some (AV.agg [AV.int .i64 n18, AV.str s19, AV.int .i64 n20, AV.slc (3 : Nat) es21, AV.int .i64 n22])) ∧ ∃ n24 n25 b26, S (76 : Nat) [AV.agg [AV.str s19, AV.int .i64 n20, AV.slc (3 : Nat) es21], AV.int .i64 n14] [] (AV.tup [AV.agg [AV.int .i64 n24, AV.int .i64 n25], AV.bool b26]) [] ∧ (b26 = true → ((0 : Int) ≤ n13 ∧ n13 ≤ (↑es8.length : Int)) ∧ ∃ b31, S (81 : Nat) [AV.slc (3 : Nat) (List.take n13.toNat es8), AV.fn (79 : Nat) [] [AV.ref (0 : Nat) (0 : Nat), AV.ref (1 : Nat) (0 : Nat)]] [[AV.int .i64 n18, AV.str s19, AV.int .i64 n20, AV.slc (3 : Nat) es21, AV.int .i64 n22], [AV.int .i64 n14]] (AV.bool b31) [[AV.int .i64 n18, AV.str s19, AV.int .i64 n20, AV.slc (3 : Nat) es21, AV.int .i64 n22], [AV.int .i64 n14]] ∧ ((!b31) = true → ((0 : Int) ≤ IntKind.i64.wrap (n13 + (1 : Int)) ∧ IntKind.i64.wrap (n13 + (1 : Int)) ≤ (↑es8.length : Int) ∧ (↑es8.length : Int) ≤ (↑es8.length : Int) ∧ elemsOf (5 : Nat) es8) ∧ ∃ b36, S (81 : Nat) [AV.slc (3 : Nat) (List.take ((↑es8.length : Int).toNat - (IntKind.i64.wrap (n13 + (1 : Int))).toNat) (List.drop (IntKind.i64.wrap (n13 + (1 : Int))).toNat es8)), AV.fn (79 : Nat) [] [AV.ref (0 : Nat) (0 : Nat), AV.ref (1 : Nat) (0 : Nat)]] [[AV.int .i64 n18, AV.str s19, AV.int .i64 n20, AV.slc (3 : Nat) es21, AV.int .i64 n22], [AV.int .i64 n14]] (AV.bool b36) [[AV.int .i64 n18, AV.str s19, AV.int .i64 n20, AV.slc (3 : Nat) es21, AV.int .i64 n22], [AV.int .i64 n14]] ∧ ((!b36) = true → Q (AV.tup [AV.int .i64 n18, AV.int .i64 (0 : Int)]) []) ∧ ((!b36) = false → f.cs = f.cs ∧ ∃ k41, k41 < m12 ∧ I10 k41 [AV.int .i64 (IntKind.i64.wrap (n13 + (1 : Int))), AV.agg [AV.int .i64 n14]])) ∧ ((!b31) = false → f.cs = f.cs ∧ ∃ k36, k36 < m12 ∧ I10 k36 [AV.int .i64 (IntKind.i64.wrap (n13 + (1 : Int))), AV.agg [AV.int .i64 n14]])) ∧ (b26 = false → f.cs = f.cs ∧ ∃ k31, k31 < m12 ∧ I10 k31 [AV.int .i64 (IntKind.i64.wrap (n13 + (1 : Int))), AV.agg [AV.int .i64 n14]])) ∧ (decide (n13 < (↑es8.length : Int)) = false → Q (AV.tup [AV.int .i64 (-1 : Int), AV.int .i64 (0 : Int)]) [])))
theorem r31 (f : TFeFeeder) (node : Int) (current : Int) (S : SpecF) (Fr : FuncId → List AV → Nat → List AV → Prop) (Sq : FuncId → List AV → List (List AV) → List (List AV) → Prop) (Q : AV → List (List AV) → Prop) : awpF Try.prog (mkS Try.prog S Fr Sq ⟨[], [], [81, 79], [], []⟩ 0) 0 ⟨[0, 1, 2, 3, 5, 6, 7, 8, 9, 10, 11, 13, 14, 18, 22, 29, 30, 31, 32, 61], [⟨8, [(31, .int .i64 0)], [], [(5, .agg [.int .i64 0])], [], []⟩], [], []⟩ Try.f31 [f.av, .int .i64 node, .int .i64 current] [] Q = R31 f node current S Fr Sq Q := by kernel_rfl
theorem s31 (f : TFeFeeder) (node : Int) (current : Int) (v : AV) (O : List (List AV)) (h : R31 f node current (SpecOf Try.prog) (FreshOf Try.prog) (SeqOf Try.prog) (fun r O' => r = v ∧ O' = O)) : SpecOf Try.prog 31 [f.av, .int .i64 node, .int .i64 current] [] v O :=
  spec_by (boxes := []) mixed (by exact trivial) Try.func31 Try.call31 rfl rfl rfl (Nat.le_of_ble_eq_true rfl) (r31 f node current (SpecOf Try.prog) (FreshOf Try.prog) (SeqOf Try.prog) _) h
theorem c31 (f : TFeFeeder) (hn : NOK f) (node c : Int) : Sp 31 [f.av, .int .i64 node, .int .i64 c] [] (.tup [.int .i64 (firstR f node c).1, .int .i64 (firstR f node c).2]) [] := s31 f node c _ _ (by
  unfold R31
  refine ⟨_, c61 f hn node, fun h => ⟨?_, rfl⟩, fun h => ⟨_, c43 _ _ _, fun h2 => ⟨?_, rfl⟩, fun h2 => ?_⟩⟩
  · have h : askedS f node ≠ 0 := by simpa using h
    rw [firstR, if_pos h]
  · have h : ¬ askedS f node ≠ 0 := by simpa using h
    rw [firstR, if_neg h, if_pos h2]
  · have h : askedS f node = 0 := by simpa using h
    have h2' : ¬ (!inB c 0 1000000000) = true := by rw [h2]; simp
    obtain ⟨hf, x, rfl, hx⟩ := asked_ok h
    have hp := inB_iff.1 (by simpa using h2 : inB c 0 1000000000 = true)
    have hR : firstR f x c = (firstG (guardsL f (upL f x)) c 0 (guardsL f (upL f x)), 0) := by rw [firstR, if_neg (by omega), if_neg h2']; rfl
    rw [hR]
    have hgo := guards_ok hf hx
    have hgl : (guardsL f (upL f x)).length ≤ 40 := Nat.le_trans guards_len (upL_len40 hf hx)
    have hc := c78 hf x hx
    generalize guardsL f (upL f x) = L at hgo hgl hc
    refine ⟨_, hc, ?_⟩
    simp only [List.length_map]
    refine ⟨fun m vs => ∃ n : Nat, vs = [.int .i64 n, .agg [.int .i64 c]] ∧ n ≤ L.length ∧ m = L.length - n ∧ firstG L c n (L.drop n) = firstG L c 0 L, ⟨_, 0, rfl, by omega, rfl, rfl⟩, ?_⟩
    rintro m n n1 ⟨k, hk, hle, rfl, hn⟩
    cases hk
    refine ⟨fun h3 => ?_, fun h3 => ⟨?_, trivial⟩⟩
    · have h3 : k < L.length := by simpa using h3
      obtain ⟨g, hg, hg'⟩ := map_getN (f := TGuard.av) h3
      have hgg := hgo g (List.mem_of_getElem? hg)
      have hat := firstG_at (c := c) hg
      have hw : IntKind.i64.wrap ((k : Int) + 1) = ((k + 1 : Nat) : Int) := wrapN (by omega)
      rw [hw]
      have next : certB L c k g = false → ∃ m', m' < L.length - k ∧ ∃ n : Nat, [AV.int .i64 ((k + 1 : Nat) : Int), .agg [.int .i64 c]] = [.int .i64 n, .agg [.int .i64 c]] ∧ n ≤ L.length ∧ m' = L.length - n ∧ firstG L c n (L.drop n) = firstG L c 0 L := fun hcb =>
        ⟨_, (by omega : L.length - (k + 1) < L.length - k), k + 1, rfl, by omega, rfl, by rw [← hn, hat, if_neg (by rw [hcb]; simp)]⟩
      have e1 : List.take (k : Int).toNat (List.map TGuard.av L) = List.map TGuard.av (L.take k) := by rw [Int.toNat_natCast, List.map_take]
      have e2 : List.take ((L.length : Int).toNat - ((k + 1 : Nat) : Int).toNat) (List.drop ((k + 1 : Nat) : Int).toNat (List.map TGuard.av L)) = List.map TGuard.av (L.drop (k + 1)) := by
        rw [Int.toNat_natCast, Int.toNat_natCast, ← List.map_drop, List.take_of_length_le (by simp)]
      refine ⟨g.node, g.fuse.Name, g.fuse.Rated, List.map TFePoint.av g.fuse.Points, g.besides, ⟨by omega, trivial, hg'⟩, _, _, _, c76 g.fuse c (by have := hgg.fuse.len; omega), fun h4 => ⟨⟨by omega, by omega⟩, ((L.take k).any fun o => !beatsB g o c), ?_, fun h5 => ⟨⟨by omega, by omega, by omega, (flatG L).1⟩, ((L.drop (k + 1)).any fun o => !beatsB g o c), ?_, fun h6 => ⟨?_, trivial⟩, fun h6 => ⟨trivial, next ?_⟩⟩, fun h5 => ⟨trivial, next ?_⟩⟩, fun h4 => ⟨trivial, next ?_⟩⟩
      · rw [e1]; exact c81 (L.take k) g c (by rw [List.length_take]; omega) hgg (fun o ho => hgo o (List.mem_of_mem_take ho)) (by omega)
      · rw [e2]; exact c81 (L.drop (k + 1)) g c (by rw [List.length_drop]; omega) hgg (fun o ho => hgo o (List.mem_of_mem_drop ho)) (by omega)
      · have : certB L c k g = true := by rw [certB, h4, h5, h6]; rfl
        rw [← hn, hat, if_pos this]
      · rw [certB, h6, Bool.and_false]
      · rw [certB, h5, Bool.and_false, Bool.false_and]
      · rw [certB, h4, Bool.false_and, Bool.false_and]
    · have : k = L.length := by simp at h3; omega
      rw [← hn, this, List.drop_length]; rfl)
end Go.Proofs.Ytbdbnpnichkcjaa
namespace Go.Proofs.Ytbdbnpnichkcjaa
open Go.RowKit
def wantB (g o : TGuard) (b : TEncl) (n : Int) : Bool := inB n b.Lo b.Hi && ((meltS g.fuse n).2 && !beatsB g o n)
def CB (b : TEncl) : Prop := -2000000000000 ≤ b.Lo ∧ b.Hi ≤ 2000000000000
def R128 (n : Int) (v0 : TGuard) (v1 : TEncl) (v2 : TGuard) (S : SpecF) (_Fr : FuncId → List AV → Nat → List AV → Prop) (_Sq : FuncId → List AV → List (List AV) → List (List AV) → Prop) (Q : AV → List (List AV) → Prop) : Prop :=
  ∃ n0 n1 b2, S (76 : Nat) [v0.fuse.av, AV.int .i64 n] [] (AV.tup [AV.agg [AV.int .i64 n0, AV.int .i64 n1], AV.bool b2]) [] ∧ ∃ b4, S (43 : Nat) [AV.int .i64 n, AV.int .i64 v1.Lo, AV.int .i64 v1.Hi] [] (AV.bool b4) [] ∧ (b4 = true → (b2 = true → ∃ b10, S (80 : Nat) [v0.av, v2.av, AV.int .i64 n] [] (AV.bool b10) [] ∧ Q (AV.bool !b10) [v0.cs, v1.cs, v2.cs]) ∧ (b2 = false → Q (AV.bool false) [v0.cs, v1.cs, v2.cs])) ∧ (b4 = false → Q (AV.bool false) [v0.cs, v1.cs, v2.cs])
theorem r128 (n : Int) (v0 : TGuard) (v1 : TEncl) (v2 : TGuard) (S : SpecF) (Fr : FuncId → List AV → Nat → List AV → Prop) (Sq : FuncId → List AV → List (List AV) → List (List AV) → Prop) (Q : AV → List (List AV) → Prop) : awpF Try.prog (mkS Try.prog S Fr Sq ⟨[], [], [], [], []⟩ 0) 3 ⟨[0, 1, 2, 3, 5, 7], [], [], []⟩ Try.f128 [.int .i64 n, .ref 0 0, .ref 1 0, .ref 2 0] [⟨118, false, v0.cs⟩, ⟨26, false, v1.cs⟩, ⟨118, false, v2.cs⟩] Q = R128 n v0 v1 v2 S Fr Sq Q := by kernel_rfl
theorem s128 (n : Int) (v0 : TGuard) (v1 : TEncl) (v2 : TGuard) (v : AV) (O : List (List AV)) (h : R128 n v0 v1 v2 (SpecOf Try.prog) (FreshOf Try.prog) (SeqOf Try.prog) (fun r O' => r = v ∧ O' = O)) : SpecOf Try.prog 128 [.int .i64 n, .ref 0 0, .ref 1 0, .ref 2 0] [v0.cs, v1.cs, v2.cs] v O :=
  spec_by (boxes := [⟨118, false, v0.cs⟩, ⟨26, false, v1.cs⟩, ⟨118, false, v2.cs⟩]) mixed (by exact trivial) Try.func128 Try.call128 rfl rfl rfl (Nat.le_of_ble_eq_true rfl) (r128 n v0 v1 v2 (SpecOf Try.prog) (FreshOf Try.prog) (SeqOf Try.prog) _) h
theorem c128 (n : Int) (g : TGuard) (b : TEncl) (o : TGuard) (hg : GOK g) (ho : GOK o) (hb : CB b) : Sp 128 [.int .i64 n, .ref 0 0, .ref 1 0, .ref 2 0] [g.cs, b.cs, o.cs] (.bool (wantB g o b n)) [g.cs, b.cs, o.cs] := s128 n g b o _ _ (by
  refine ⟨_, _, _, c76 g.fuse n (by have := hg.fuse.len; omega), _, c43 _ _ _, fun h => ⟨fun h2 => ?_, fun h2 => ⟨?_, rfl⟩⟩, fun h => ⟨?_, rfl⟩⟩
  · have := inB_iff.1 h
    unfold CB at hb
    exact ⟨_, c80 g o n hg ho (by omega), by rw [wantB, h, h2]; rfl, rfl⟩
  · rw [wantB, h, h2]; rfl
  · rw [wantB, h]; rfl)
def R131 (s : List Int) (f0 : TGuard) (f1 : TEncl) (f2 : TGuard) (S : SpecF) (_Fr : FuncId → List AV → Nat → List AV → Prop) (_Sq : FuncId → List AV → List (List AV) → List (List AV) → Prop) (Q : AV → List (List AV) → Prop) : Prop :=
  ∃ (I0 : Nat → List AV → Prop), (∃ m2, I0 m2 [AV.int .i64 (0 : Int), f0.av]) ∧ ∀ (m2 : Nat) (n3 n4 : Int) (s5 : ByteArray) (n6 : Int) (es7 : List AV) (n8 : Int), I0 m2 [AV.int .i64 n3, AV.agg [AV.int .i64 n4, AV.str s5, AV.int .i64 n6, AV.slc (3 : Nat) es7, AV.int .i64 n8]] → (decide (n3 < (↑(List.map (AV.int IntKind.i64) s).length : Int)) = true → ∃ n12, ((0 : Int) ≤ n3 ∧ (1 : Nat) = (1 : Nat) ∧ (List.map (AV.int IntKind.i64) s)[n3.toNat]? = some (AV.int .i64 n12)) ∧ ∃ b14, S (128 : FuncId) [AV.int .i64 n12, AV.ref (0 : Nat) (0 : Nat), AV.ref (1 : Nat) (0 : Nat), AV.ref (2 : Nat) (0 : Nat)] [[AV.int .i64 n4, AV.str s5, AV.int .i64 n6, AV.slc (3 : Nat) es7, AV.int .i64 n8], f1.cs, f2.cs] (AV.bool b14) [[AV.int .i64 n4, AV.str s5, AV.int .i64 n6, AV.slc (3 : Nat) es7, AV.int .i64 n8], f1.cs, f2.cs] ∧ (b14 = true → Q (AV.int .i64 n3) [[AV.int .i64 n4, AV.str s5, AV.int .i64 n6, AV.slc (3 : Nat) es7, AV.int .i64 n8], f1.cs, f2.cs]) ∧ (b14 = false → f1.cs = f1.cs ∧ f2.cs = f2.cs ∧ ∃ k20, k20 < m2 ∧ I0 k20 [AV.int .i64 (IntKind.i64.wrap (n3 + (1 : Int))), AV.agg [AV.int .i64 n4, AV.str s5, AV.int .i64 n6, AV.slc (3 : Nat) es7, AV.int .i64 n8]])) ∧ (decide (n3 < (↑(List.map (AV.int IntKind.i64) s).length : Int)) = false → Q (AV.int .i64 (-1 : Int)) [[AV.int .i64 n4, AV.str s5, AV.int .i64 n6, AV.slc (3 : Nat) es7, AV.int .i64 n8], f1.cs, f2.cs])
theorem r131 (s : List Int) (f0 : TGuard) (f1 : TEncl) (f2 : TGuard) (S : SpecF) (Fr : FuncId → List AV → Nat → List AV → Prop) (Sq : FuncId → List AV → List (List AV) → List (List AV) → Prop) (Q : AV → List (List AV) → Prop) : awpF Try.prog (mkS Try.prog S Fr Sq ⟨[], [], [128], [], []⟩ 0) 3 ⟨[0, 1, 4, 5, 7, 8, 9, 16], [⟨2, [(8, .int .i64 0)], [], [(1000000, .agg [.int .i64 0, .str default, .int .i64 0, .slc 3 [], .int .i64 0])], [], []⟩], [], []⟩ Try.f131 [.slc 3 (List.map (AV.int .i64) s), .fn 128 [] [.ref 0 0, .ref 1 0, .ref 2 0]] [⟨118, false, f0.cs⟩, ⟨26, false, f1.cs⟩, ⟨118, false, f2.cs⟩] Q = R131 s f0 f1 f2 S Fr Sq Q := by kernel_rfl
theorem s131 (s : List Int) (f0 : TGuard) (f1 : TEncl) (f2 : TGuard) (v : AV) (O : List (List AV)) (h : R131 s f0 f1 f2 (SpecOf Try.prog) (FreshOf Try.prog) (SeqOf Try.prog) (fun r O' => r = v ∧ O' = O)) : SpecOf Try.prog 131 [.slc 3 (List.map (AV.int .i64) s), .fn 128 [] [.ref 0 0, .ref 1 0, .ref 2 0]] [f0.cs, f1.cs, f2.cs] v O :=
  spec_by (boxes := [⟨118, false, f0.cs⟩, ⟨26, false, f1.cs⟩, ⟨118, false, f2.cs⟩]) mixed (by exact trivial) Try.func131 Try.call131 rfl rfl rfl (Nat.le_of_ble_eq_true rfl) (r131 s f0 f1 f2 (SpecOf Try.prog) (FreshOf Try.prog) (SeqOf Try.prog) _) h
theorem c131 (s : List Int) (g : TGuard) (b : TEncl) (o : TGuard) (hl : s.length ≤ 1000000) (hg : GOK g) (ho : GOK o) (hb : CB b) : Sp 131 [.slc 3 (List.map (AV.int .i64) s), .fn 128 [] [.ref 0 0, .ref 1 0, .ref 2 0]] [g.cs, b.cs, o.cs] (.int .i64 (idxP (wantB g o b) 0 s)) [g.cs, b.cs, o.cs] := s131 s g b o _ _ (by
  refine ⟨fun m vs => ∃ n : Nat, vs = [.int .i64 n, g.av] ∧ n ≤ s.length ∧ m = s.length - n ∧ idxP (wantB g o b) n (s.drop n) = idxP (wantB g o b) 0 s, ⟨_, 0, rfl, by omega, rfl, rfl⟩, ?_⟩
  rintro m n n1 n2 n3 n4 n5 ⟨k, hk, hle, rfl, hn⟩
  cases hk
  refine ⟨fun h3 => ?_, fun h3 => ⟨?_, rfl⟩⟩
  · have h3 : k < s.length := by simpa using h3
    obtain ⟨x, hx, hx'⟩ := map_getN (f := AV.int .i64) h3
    have hat := idxP_at (p := wantB g o b) hx
    refine ⟨x, ⟨by omega, rfl, hx'⟩, _, c128 x g b o hg ho hb, fun h4 => ⟨?_, rfl⟩, fun h4 => ⟨rfl, rfl, _, ?_, k + 1, ?_, by omega, rfl, ?_⟩⟩
    · rw [← hn, hat, if_pos h4]
    · omega
    · rw [wrapN (by omega)]; rfl
    · rw [← hn, hat, if_neg (by rw [h4]; simp)]
  · have : k = s.length := by simp at h3; omega
    rw [← hn, this, List.drop_length]; rfl)
def R127 (s : List Int) (f0 : TGuard) (f1 : TEncl) (f2 : TGuard) (S : SpecF) (_Fr : FuncId → List AV → Nat → List AV → Prop) (_Sq : FuncId → List AV → List (List AV) → List (List AV) → Prop) (Q : AV → List (List AV) → Prop) : Prop :=
  ∃ n0, S (131 : Nat) [AV.slc (3 : Nat) (List.map (AV.int IntKind.i64) s), AV.fn (128 : FuncId) [] [AV.ref (0 : Nat) (0 : Nat), AV.ref (1 : Nat) (0 : Nat), AV.ref (2 : Nat) (0 : Nat)]] [f0.cs, f1.cs, f2.cs] (AV.int .i64 n0) [f0.cs, f1.cs, f2.cs] ∧ Q (AV.bool (decide (n0 ≥ (0 : Int)))) [f0.cs, f1.cs, f2.cs]
theorem r127 (s : List Int) (f0 : TGuard) (f1 : TEncl) (f2 : TGuard) (S : SpecF) (Fr : FuncId → List AV → Nat → List AV → Prop) (Sq : FuncId → List AV → List (List AV) → List (List AV) → Prop) (Q : AV → List (List AV) → Prop) : awpF Try.prog (mkS Try.prog S Fr Sq ⟨[], [], [131], [], []⟩ 0) 3 ⟨[0, 1, 4], [], [], []⟩ Try.f127 [.slc 3 (List.map (AV.int .i64) s), .fn 128 [] [.ref 0 0, .ref 1 0, .ref 2 0]] [⟨118, false, f0.cs⟩, ⟨26, false, f1.cs⟩, ⟨118, false, f2.cs⟩] Q = R127 s f0 f1 f2 S Fr Sq Q := by kernel_rfl
theorem s127 (s : List Int) (f0 : TGuard) (f1 : TEncl) (f2 : TGuard) (v : AV) (O : List (List AV)) (h : R127 s f0 f1 f2 (SpecOf Try.prog) (FreshOf Try.prog) (SeqOf Try.prog) (fun r O' => r = v ∧ O' = O)) : SpecOf Try.prog 127 [.slc 3 (List.map (AV.int .i64) s), .fn 128 [] [.ref 0 0, .ref 1 0, .ref 2 0]] [f0.cs, f1.cs, f2.cs] v O :=
  spec_by (boxes := [⟨118, false, f0.cs⟩, ⟨26, false, f1.cs⟩, ⟨118, false, f2.cs⟩]) mixed (by exact trivial) Try.func127 Try.call127 rfl rfl rfl (Nat.le_of_ble_eq_true rfl) (r127 s f0 f1 f2 (SpecOf Try.prog) (FreshOf Try.prog) (SeqOf Try.prog) _) h
theorem c127 (s : List Int) (g : TGuard) (b : TEncl) (o : TGuard) (hl : s.length ≤ 1000000) (hg : GOK g) (ho : GOK o) (hb : CB b) : Sp 127 [.slc 3 (List.map (AV.int .i64) s), .fn 128 [] [.ref 0 0, .ref 1 0, .ref 2 0]] [g.cs, b.cs, o.cs] (.bool (s.any (wantB g o b))) [g.cs, b.cs, o.cs] := s127 s g b o _ _ (by
  refine ⟨_, c131 s g b o hl hg ho hb, ?_, rfl⟩
  rw [idxP_ge])
theorem flatI (s : List Int) : (s.map (AV.int .i64)).flatMap AV.cells = s.map (AV.int .i64) ∧ ones (s.map (AV.int .i64)) = true := by
  induction s with
  | nil => exact ⟨rfl, rfl⟩
  | cons x r ih =>
    refine ⟨by simp only [List.map_cons, List.flatMap_cons, ih.1]; rfl, ?_⟩
    have := ih.2
    simp only [ones, List.map_cons, List.all_cons, Bool.and_eq_true] at this ⊢
    exact ⟨rfl, this⟩
def gCur (g : TGuard) : List Int := g.fuse.Points.map (·.Current)
def oCur (o : TGuard) : List Int := o.fuse.Points.map (fun p => p.Current - o.besides)
def probes (g o : TGuard) (b : TEncl) : List Int := b.Lo :: gCur g ++ oCur o
def yieldsB (g o : TGuard) (b : TEncl) : Bool := (probes g o b).any (wantB g o b)
theorem agg3 : isAggT Try.prog 3 = false := by kernel_rfl
theorem take_map1 {α β : Type} {f : α → β} {l : List α} {k : Nat} {x : α} (h : l[k]? = some x) : (l.map f).take (k + 1) = (l.map f).take k ++ [f x] := by
  rw [List.take_add_one, List.getElem?_map, h]; rfl
def R107 (g : TGuard) (other : TGuard) (b : TEncl) (S : SpecF) (_Fr : FuncId → List AV → Nat → List AV → Prop) (_Sq : FuncId → List AV → List (List AV) → List (List AV) → Prop) (Q : AV → List (List AV) → Prop) : Prop :=
  ∃ (I0 : Nat → List AV → Prop), (∃ es2, (es2.length = (1 : Nat) ∧ List.flatMap AV.cells es2 = [AV.int .i64 b.Lo]) ∧ ∃ m4, I0 m4 [AV.int .i64 (0 : Int), AV.slc (3 : Nat) es2]) ∧ ∀ (m2 : Nat) (n3 : Int) (es4 : List AV), I0 m2 [AV.int .i64 n3, AV.slc (3 : Nat) es4] → (decide (n3 < (↑(List.map TFePoint.av g.fuse.Points).length : Int)) = true → ∃ n8 n9 n10, ((0 : Int) ≤ n3 ∧ (3 : Nat) = (3 : Nat) ∧ (List.map TFePoint.av g.fuse.Points)[n3.toNat]? = some (AV.agg [AV.int .i64 n8, AV.int .i64 n9, AV.int .i64 n10])) ∧ elemsOf (1 : Nat) [AV.int .i64 n8] ∧ ((List.flatMap AV.cells es4).length = es4.length * (1 : Nat) ∧ (es4.length + (1 : Nat) + (512 : Nat)) * (41 : Nat) ≤ (1125899906842624 : Nat) ∧ ones [AV.int .i64 n8] = true ∧ ones (List.flatMap AV.cells es4) = true) ∧ g.cs = g.cs ∧ other.cs = other.cs ∧ b.cs = b.cs ∧ ∃ es17, (es17.length = es4.length + (1 : Nat) ∧ List.flatMap AV.cells es17 = List.flatMap AV.cells es4 ++ [AV.int .i64 n8]) ∧ ∃ k19, k19 < m2 ∧ I0 k19 [AV.int .i64 (IntKind.i64.wrap (n3 + (1 : Int))), AV.slc (3 : Nat) es17]) ∧ (decide (n3 < (↑(List.map TFePoint.av g.fuse.Points).length : Int)) = false → ∃ (I8 : Nat → List AV → Prop), (∃ es10, (es10.length = es4.length ∧ List.flatMap AV.cells es10 = List.flatMap AV.cells es4) ∧ ∃ m12, I8 m12 [AV.int .i64 (0 : Int), AV.slc (3 : Nat) es10]) ∧ ∀ (m10 : Nat) (n11 : Int) (es12 : List AV), I8 m10 [AV.int .i64 n11, AV.slc (3 : Nat) es12] → (decide (n11 < (↑(List.map TFePoint.av other.fuse.Points).length : Int)) = true → ∃ n16 n17 n18, ((0 : Int) ≤ n11 ∧ (3 : Nat) = (3 : Nat) ∧ (List.map TFePoint.av other.fuse.Points)[n11.toNat]? = some (AV.agg [AV.int .i64 n16, AV.int .i64 n17, AV.int .i64 n18])) ∧ elemsOf (1 : Nat) [AV.int .i64 (IntKind.i64.wrap (n16 - other.besides))] ∧ ((List.flatMap AV.cells es12).length = es12.length * (1 : Nat) ∧ (es12.length + (1 : Nat) + (512 : Nat)) * (41 : Nat) ≤ (1125899906842624 : Nat) ∧ ones [AV.int .i64 (IntKind.i64.wrap (n16 - other.besides))] = true ∧ ones (List.flatMap AV.cells es12) = true) ∧ g.cs = g.cs ∧ other.cs = other.cs ∧ b.cs = b.cs ∧ ∃ es25, (es25.length = es12.length + (1 : Nat) ∧ List.flatMap AV.cells es25 = List.flatMap AV.cells es12 ++ [AV.int .i64 (IntKind.i64.wrap (n16 - other.besides))]) ∧ ∃ k27, k27 < m10 ∧ I8 k27 [AV.int .i64 (IntKind.i64.wrap (n11 + (1 : Int))), AV.slc (3 : Nat) es25]) ∧ (decide (n11 < (↑(List.map TFePoint.av other.fuse.Points).length : Int)) = false → ((0 : Nat) + es12.length * (1 : Nat) ≤ (List.flatMap AV.cells es12).length ∧ ones (List.flatMap AV.cells es12) = true) ∧ ∃ b17, S (127 : Nat) [AV.slc (3 : Nat) (chunks (1 : Nat) (isAggT Try.prog (3 : Nat)) es12.length (List.drop (0 : Nat) (List.flatMap AV.cells es12))), AV.fn (128 : Nat) [] [AV.ref (0 : Nat) (0 : Nat), AV.ref (1 : Nat) (0 : Nat), AV.ref (2 : Nat) (0 : Nat)]] [g.cs, b.cs, other.cs] (AV.bool b17) [g.cs, b.cs, other.cs] ∧ Q (AV.bool b17) []))
theorem r107 (g : TGuard) (other : TGuard) (b : TEncl) (S : SpecF) (Fr : FuncId → List AV → Nat → List AV → Prop) (Sq : FuncId → List AV → List (List AV) → List (List AV) → Prop) (Q : AV → List (List AV) → Prop) : awpF Try.prog (mkS Try.prog S Fr Sq ⟨[], [], [127], [], [14]⟩ 0) 0 ⟨[0, 1, 2, 3, 4, 5, 6, 7, 9, 11, 17, 18, 19, 20, 31, 32, 33, 34], [⟨3, [(19, .int .i64 0)], [(7, 3)], [], [], []⟩, ⟨8, [(33, .int .i64 0)], [(7, 3)], [], [], []⟩], [], []⟩ Try.f107 [g.av, other.av, b.av] [] Q = R107 g other b S Fr Sq Q := by kernel_rfl
theorem s107 (g : TGuard) (other : TGuard) (b : TEncl) (v : AV) (O : List (List AV)) (h : R107 g other b (SpecOf Try.prog) (FreshOf Try.prog) (SeqOf Try.prog) (fun r O' => r = v ∧ O' = O)) : SpecOf Try.prog 107 [g.av, other.av, b.av] [] v O :=
  spec_by (boxes := []) mixed (by exact trivial) Try.func107 Try.call107 rfl rfl rfl (Nat.le_of_ble_eq_true rfl) (r107 g other b (SpecOf Try.prog) (FreshOf Try.prog) (SeqOf Try.prog) _) h
theorem c107 (g o : TGuard) (b : TEncl) (hg : GOK g) (ho : GOK o) (hb : CB b) : Sp 107 [g.av, o.av, b.av] [] (.bool (yieldsB g o b)) [] := s107 g o b _ _ (by
  unfold R107
  simp only [List.length_map]
  have gl := hg.fuse.len; have ol := ho.fuse.len
  have glen : (gCur g).length = g.fuse.Points.length := by simp [gCur]
  have olen : (oCur o).length = o.fuse.Points.length := by simp [oCur]
  have F := flatI
  let L1 : Nat → List Int := fun k => b.Lo :: (gCur g).take k
  refine ⟨fun m vs => ∃ k : Nat, k ≤ g.fuse.Points.length ∧ m = g.fuse.Points.length - k ∧ vs = [.int .i64 k, .slc 3 ((L1 k).map (AV.int .i64))], ⟨[.int .i64 b.Lo], ⟨rfl, rfl⟩, _, 0, by omega, rfl, rfl⟩, ?_⟩
  rintro m n es ⟨k, hk, rfl, hv⟩
  cases hv
  refine ⟨fun h => ?_, fun h => ?_⟩
  · have h : k < g.fuse.Points.length := by simpa using h
    obtain ⟨p, hp, hp'⟩ := map_getN (f := TFePoint.av) h
    have hnext : L1 (k + 1) = L1 k ++ [p.Current] := by show b.Lo :: _ = _; unfold gCur; rw [take_map1 hp]; rfl
    have hl : (L1 k).length ≤ 9 := by show ((gCur g).take k).length + 1 ≤ 9; rw [List.length_take]; omega
    refine ⟨p.Current, p.Melt.Lo, p.Melt.Hi, ⟨by omega, trivial, hp'⟩, ?_, ⟨?_, ?_, rfl, ?_⟩, by trivial, by trivial, by trivial, (L1 (k + 1)).map (AV.int .i64), ⟨?_, ?_⟩, _, (by omega : g.fuse.Points.length - (k + 1) < g.fuse.Points.length - k), k + 1, by omega, rfl, ?_⟩
    · intro v hv; rw [List.mem_singleton] at hv; rw [hv]; rfl
    · rw [(F _).1]; simp
    · simp only [List.length_map]; omega
    · rw [(F _).1]; exact (F _).2
    · rw [hnext]; simp
    · rw [(F _).1, (F _).1, hnext, List.map_append]; rfl
    · rw [wrapN (by omega)]
  · have hk : k = g.fuse.Points.length := by simp at h; omega
    subst hk
    let L2 : Nat → List Int := fun k => b.Lo :: gCur g ++ (oCur o).take k
    have h0 : L1 g.fuse.Points.length = L2 0 := by show b.Lo :: _ = b.Lo :: _ ++ _; rw [List.take_of_length_le (by omega)]; simp
    rw [h0]
    refine ⟨fun m vs => ∃ k : Nat, k ≤ o.fuse.Points.length ∧ m = o.fuse.Points.length - k ∧ vs = [.int .i64 k, .slc 3 ((L2 k).map (AV.int .i64))], ⟨_, ⟨rfl, rfl⟩, _, 0, by omega, rfl, rfl⟩, ?_⟩
    rintro m n es ⟨k, hk, rfl, hv⟩
    cases hv
    refine ⟨fun h => ?_, fun h => ?_⟩
    · have h : k < o.fuse.Points.length := by simpa using h
      obtain ⟨p, hp, hp'⟩ := map_getN (f := TFePoint.av) h
      have hpo := (ho.fuse.pts p (List.mem_of_getElem? hp)).1
      have hw : IntKind.i64.wrap (p.Current - o.besides) = p.Current - o.besides := i64 (by have := ho.bes; omega)
      have hnext : L2 (k + 1) = L2 k ++ [p.Current - o.besides] := by
        show b.Lo :: gCur g ++ _ = b.Lo :: gCur g ++ _ ++ _
        unfold oCur; rw [take_map1 hp, List.append_assoc]
      have hl : (L2 k).length ≤ 17 := by
        show (b.Lo :: gCur g ++ (oCur o).take k).length ≤ 17
        rw [List.length_append, List.length_cons, List.length_take]; omega
      refine ⟨p.Current, p.Melt.Lo, p.Melt.Hi, ⟨by omega, trivial, hp'⟩, ?_, ⟨?_, ?_, rfl, ?_⟩, by trivial, by trivial, by trivial, (L2 (k + 1)).map (AV.int .i64), ⟨?_, ?_⟩, _, (by omega : o.fuse.Points.length - (k + 1) < o.fuse.Points.length - k), k + 1, by omega, rfl, ?_⟩
      · intro v hv; rw [List.mem_singleton] at hv; rw [hv]; rfl
      · rw [(F _).1]; simp
      · simp only [List.length_map]; omega
      · rw [(F _).1]; exact (F _).2
      · rw [hnext]; simp
      · rw [(F _).1, (F _).1, hnext, List.map_append, hw]; rfl
      · rw [wrapN (by omega)]
    · have hk : k = o.fuse.Points.length := by simp at h; omega
      subst hk
      have hL : L2 o.fuse.Points.length = probes g o b := by
        show b.Lo :: gCur g ++ _ = _
        rw [List.take_of_length_le (by omega)]; rfl
      rw [hL, (F _).1]
      have hl : (probes g o b).length ≤ 17 := by unfold probes; rw [List.length_append, List.length_cons]; omega
      refine ⟨⟨by simp, (F _).2⟩, (probes g o b).any (wantB g o b), ?_, rfl, trivial⟩
      have : chunks 1 (isAggT Try.prog 3) ((probes g o b).map (AV.int .i64)).length (List.drop 0 ((probes g o b).map (AV.int .i64))) = (probes g o b).map (AV.int .i64) := by
        rw [agg3]; simp only [chunks, List.drop_zero]; rw [if_neg (by simp)]; exact List.take_of_length_le (Nat.le_refl _)
      rw [this]
      exact c127 _ g b o (by omega) hg ho hb)
def RY126 (v0 : List TGuard) (l : Nat) (Y : Nat → List AV → Prop) (len : Nat) : Prop :=
  ∃ (I0 : Nat → Nat → List AV → Prop), (∃ m2, I0 m2 (0 : Nat) [AV.int .i64 (IntKind.i64.wrap ((↑(List.map TGuard.av v0).length : Int) - (1 : Int)))]) ∧ ∀ (m2 i3 : Nat) (n4 : Int), I0 m2 i3 [AV.int .i64 n4] → (decide (n4 ≥ (0 : Int)) = true → ∃ n8 s9 n10 es11 n12, ((0 : Int) ≤ n4 ∧ (5 : Nat) = (5 : Nat) ∧ (List.map TGuard.av v0)[n4.toNat]? = some (AV.agg [AV.int .i64 n8, AV.str s9, AV.int .i64 n10, AV.slc (3 : Nat) es11, AV.int .i64 n12])) ∧ l = l ∧ Y i3 [AV.int .i64 n4, AV.agg [AV.int .i64 n8, AV.str s9, AV.int .i64 n10, AV.slc (3 : Nat) es11, AV.int .i64 n12]] ∧ (((19 : Nat) = (19 : Nat) ∧ AV.yld l = AV.yld l ∧ AV.ref (0 : Nat) (0 : Nat) = AV.ref (0 : Nat) (0 : Nat) ∧ True) ∧ [AV.slc (3 : Nat) (List.map TGuard.av v0)] = [AV.slc (3 : Nat) (List.map TGuard.av v0)] ∧ ∃ k19, k19 < m2 ∧ I0 k19 (i3 + (1 : Nat)) [AV.int .i64 (IntKind.i64.wrap (n4 - (1 : Int)))]) ∧ True) ∧ (decide (n4 ≥ (0 : Int)) = false → i3 = len)
theorem ry126 (v0 : List TGuard) (l : Nat) (Y : Nat → List AV → Prop) (len : Nat) : awpS Try.prog 1 l Y ⟨[0, 1, 3, 8, 18], [⟨1, [(3, .int .i64 0)], [], [], [], []⟩], [], []⟩ Try.f126 [.ref 0 0] [⟨115, false, [.slc 3 (List.map TGuard.av v0)]⟩] len = RY126 v0 l Y len := by kernel_rfl
theorem sq126 (v0 : List TGuard) (xs : List (List AV)) (h : ∀ l, RY126 v0 l (fun i x => xs[i]? = some x) xs.length) : SeqOf Try.prog 126 [.ref 0 0] [[.slc 3 (List.map TGuard.av v0)]] xs :=
  seq_by (boxes := [⟨115, false, [.slc 3 (List.map TGuard.av v0)]⟩]) Try.func126 Try.call126 rfl rfl rfl rfl (fun l => ry126 v0 l _ _) h
theorem c126 (l : List TGuard) (hl : l.length ≤ 1000000) : Sqf 126 [.ref 0 0] [[.slc 3 (List.map TGuard.av l)]] (backX TGuard.av l) := sq126 l _ (fun y => by
  unfold RY126
  simp only [List.length_map]
  rw [i64 (n := (l.length : Int) - 1) (by omega)]
  refine ⟨fun m i vs => i ≤ l.length ∧ m = l.length - i ∧ vs = [.int .i64 ((l.length : Int) - 1 - i)], ⟨_, by omega, rfl, by simp⟩, ?_⟩
  rintro m i n ⟨hi, rfl, hv⟩
  cases hv
  refine ⟨fun h => ?_, fun h => ?_⟩
  · have h : i < l.length := by simp at h; omega
    obtain ⟨p, h1, h2⟩ := rev_get h
    have e : ((l.length : Int) - 1 - i).toNat = l.length - 1 - i := by omega
    refine ⟨p.node, p.fuse.Name, p.fuse.Rated, List.map TFePoint.av p.fuse.Points, p.besides, ⟨by omega, trivial, by rw [e, List.getElem?_map, h2]; rfl⟩, trivial, backX_get h1, ⟨⟨trivial, trivial, trivial, trivial⟩, trivial, _, (by omega : l.length - (i + 1) < l.length - i), by omega, rfl, ?_⟩, trivial⟩
    rw [i64 (by omega)]; congr 2; omega
  · rw [backX_len]; simp at h; omega)
end Go.Proofs.Ytbdbnpnichkcjaa

/- Contracts for what is dark behind one's own protection. -/
import Derived.Test.YtbdbnpnichkcjaaMd
import Derived.Test.YtbdbnpnichkcjaaRg0
import Derived.Test.YtbdbnpnichkcjaaK4
import Derived.Test.YtbdbnpnichkcjaaAw
namespace Go.Proofs.Ytbdbnpnichkcjaa
open Go.RowKit
theorem asked_check' {f : TFeFeeder} {node : Int} (h : askedS f node = 0) : (checkF f).2.2 = 0 := by
  unfold askedS at h
  split at h
  · assumption
  · rename_i h1; exact absurd h h1
theorem c36b (f : TFeFeeder) (hn : NOK f) (hc : (checkF f).2.2 = 0) {i : Nat} (hi : i < f.Nodes.length) : Sp 36 [f.av, .int .i64 (i : Nat)] [] (.tup [.slc 3 ((upL f i).reverse.map nJ), .int .i64 0]) [] := by
  have := c36 f hn i
  have ha : askedS f i = 0 := by
    unfold askedS
    rw [if_pos hc, if_pos (inB_iff.2 ⟨by omega, by omega⟩)]
  rw [pathR, if_neg (by rw [ha]; simp)] at this; exact this
def R41 (l : List Int) (n : Int) (_S : SpecF) (_Fr : FuncId → List AV → Nat → List AV → Prop) (_Sq : FuncId → List AV → List (List AV) → List (List AV) → Prop) (Q : AV → List (List AV) → Prop) : Prop :=
  ∃ (I0 : Nat → List AV → Prop), (∃ m2, I0 m2 [AV.int .i64 (0 : Int)]) ∧ ∀ (m2 : Nat) (n3 : Int), I0 m2 [AV.int .i64 n3] → (decide (n3 < (↑(List.map (AV.int IntKind.i64) l).length : Int)) = true → ∃ n7, ((0 : Int) ≤ n3 ∧ (1 : Nat) = (1 : Nat) ∧ (List.map (AV.int IntKind.i64) l)[n3.toNat]? = some (AV.int .i64 n7)) ∧ ((n7 == n) = true → Q (AV.bool true) []) ∧ ((n7 == n) = false → ∃ k11, k11 < m2 ∧ I0 k11 [AV.int .i64 (IntKind.i64.wrap (n3 + (1 : Int)))])) ∧ (decide (n3 < (↑(List.map (AV.int IntKind.i64) l).length : Int)) = false → Q (AV.bool false) [])
theorem r41 (l : List Int) (n : Int) (S : SpecF) (Fr : FuncId → List AV → Nat → List AV → Prop) (Sq : FuncId → List AV → List (List AV) → List (List AV) → Prop) (Q : AV → List (List AV) → Prop) : awpF Try.prog (mkS Try.prog S Fr Sq ⟨[], [], [], [], []⟩ 0) 0 ⟨[0, 1, 4, 5, 9, 17], [⟨2, [(5, .int .i64 0)], [], [], [], []⟩], [], []⟩ Try.f41 [.slc 3 (List.map (AV.int .i64) l), .int .i64 n] [] Q = R41 l n S Fr Sq Q := by kernel_rfl
theorem s41 (l : List Int) (n : Int) (v : AV) (O : List (List AV)) (h : R41 l n (SpecOf Try.prog) (FreshOf Try.prog) (SeqOf Try.prog) (fun r O' => r = v ∧ O' = O)) : SpecOf Try.prog 41 [.slc 3 (List.map (AV.int .i64) l), .int .i64 n] [] v O :=
  spec_by (boxes := []) mixed (by exact trivial) Try.func41 Try.call41 rfl rfl rfl (Nat.le_of_ble_eq_true rfl) (r41 l n (SpecOf Try.prog) (FreshOf Try.prog) (SeqOf Try.prog) _) h
theorem c41 (l : List Int) (hl : l.length ≤ 1000000) (n : Int) : Sp 41 [.slc 3 (List.map (AV.int .i64) l), .int .i64 n] [] (.bool (l.contains n)) [] := s41 l n _ _ (by
  unfold R41
  refine ⟨fun m vs => ∃ k : Nat, k ≤ l.length ∧ m = l.length - k ∧ vs = [.int .i64 k] ∧ (l.take k).contains n = false, ⟨_, 0, by omega, rfl, rfl, rfl⟩, ?_⟩
  rintro m n' ⟨k, hk, rfl, hv, hc⟩
  cases hv
  simp only [List.length_map]
  refine ⟨fun g => ?_, fun g => ⟨?_, by trivial⟩⟩
  · have hlt : k < l.length := by simpa using g
    obtain ⟨x, hx, hx'⟩ := map_getN (f := AV.int .i64) hlt
    refine ⟨x, ⟨by omega, by trivial, hx'⟩, fun q => ⟨?_, by trivial⟩, fun q => ⟨_, (by omega : l.length - (k + 1) < l.length - k), k + 1, by omega, rfl, by rw [wrapN (by omega)], ?_⟩⟩
    · have q : x = n := by simpa using q
      have : l.contains n = true := by simpa using q ▸ List.mem_of_getElem? hx
      rw [this]
    · have q : ¬ x = n := by simpa using q
      have hc' : n ∉ l.take k := by simpa using hc
      have : n ∉ l.take (k + 1) := by
        rw [List.take_add_one, hx, List.mem_append]
        rintro (h | h)
        · exact hc' h
        · simp only [Option.toList, List.mem_singleton] at h; exact q h.symm
      simpa using this
  · obtain rfl : k = l.length := by simp at g; omega
    rw [List.take_length] at hc
    rw [hc])
/-- One phase of all nodes behind one, ahead of a node. -/
def onlyL (f : TFeFeeder) (own p : Nat) : Nat → List TFeOpen
  | 0 => []
  | i + 1 => onlyL f own p i ++ if anc f own i then [⟨i, p⟩] else []
theorem only_dark {f : TFeFeeder} {own p : Nat} (h0 : own ≠ 0) (hp : p ≤ 2) : ∀ i, darkN f [⟨own, p⟩] i = onlyL f own p i := by
  have hb : ∀ j q, darkB f [⟨own, p⟩] j q = (decide (p = q) && anc f own j) := fun j q => by
    have e : (own == 0) = false := by simpa using h0
    simp [darkB, undB, e]
  intro i
  induction i with
  | zero => rfl
  | succ i ih =>
    rw [darkN, onlyL, ih]
    congr 1
    simp only [darkP, hb]
    cases anc f own i with
    | false => simp
    | true =>
      obtain rfl | rfl | rfl : p = 0 ∨ p = 1 ∨ p = 2 := by omega
      all_goals rfl
theorem only_pre {f : TFeFeeder} {own p i n : Nat} (h : i ≤ n) : ∃ r, onlyL f own p n = onlyL f own p i ++ r := by
  induction n with
  | zero => obtain rfl : i = 0 := by omega
            exact ⟨[], rfl⟩
  | succ n ih =>
    by_cases hi : i = n + 1
    · subst hi; exact ⟨[], by simp⟩
    · obtain ⟨r, hr⟩ := ih (by omega)
      exact ⟨r ++ if anc f own n then [⟨n, p⟩] else [], by rw [onlyL, hr, List.append_assoc]⟩
theorem only_at {f : TFeFeeder} {own p i n : Nat} (h : i < n) (ha : anc f own i = true) : (onlyL f own p n)[(onlyL f own p i).length]? = some ⟨i, p⟩ := by
  obtain ⟨r, hr⟩ := only_pre (f := f) (own := own) (p := p) (i := i + 1) (n := n) (by omega)
  rw [hr, onlyL, if_pos ha, List.append_assoc, List.getElem?_append_right (Nat.le_refl _), Nat.sub_self]; rfl
theorem only_len {f : TFeFeeder} {own p : Nat} : ∀ i, (onlyL f own p i).length ≤ i := by
  intro i
  induction i with
  | zero => exact Nat.le_refl _
  | succ i ih => rw [onlyL, List.length_append]; split <;> simp <;> omega
theorem own_node {f : TFeFeeder} (hf : OK f) {node : Nat} (h : node < f.Nodes.length) (ho : 0 ≤ ownS f node) : ∃ o : Nat, ownS f node = o ∧ o ≠ 0 ∧ o < f.Nodes.length ∧ anc f o node = true := by
  unfold ownS at *
  cases hg : gn f node with
  | nil => rw [hg] at ho; simp at ho
  | cons g r =>
    have hm : g ∈ gn f node := by rw [hg]; simp
    have := gn_mem hf h hm
    exact ⟨g, rfl, this.1, this.2.1, by unfold anc; simpa using (List.mem_filter.1 hm).1⟩
theorem path_has {f : TFeFeeder} {o i : Nat} : (((upL f i).reverse.map fun j : Nat => (j : Int)).contains (o : Int)) = anc f o i := by
  unfold anc
  rw [Bool.eq_iff_iff]
  simp only [List.contains_iff_mem, List.mem_map, List.mem_reverse]
  exact ⟨fun ⟨a, h, e⟩ => (by have : a = o := by omega
                              exact this ▸ h), fun h => ⟨o, h, rfl⟩⟩
theorem dark_one {f : TFeFeeder} (hc : (checkF f).2.2 = 0) {o p : Nat} (h0 : o ≠ 0) (ho : o < f.Nodes.length) (hp : p ≤ 2) : darkS f [⟨o, p⟩] = (onlyL f o p f.Nodes.length, 0) := by
  have hb : badO f ⟨o, p⟩ = false := by
    simp only [badO, Bool.or_eq_false_iff, Bool.not_eq_false']
    exact ⟨inB_iff.2 ⟨by omega, by omega⟩, inB_iff.2 ⟨by omega, by omega⟩⟩
  rw [darkS, if_neg (by simp [hc]), if_neg (by simp), if_neg (by simp [hb]), only_dark h0 hp]
def R14 (f : TFeFeeder) (node : Int) (phase : Int) (S : SpecF) (_Fr : FuncId → List AV → Nat → List AV → Prop) (_Sq : FuncId → List AV → List (List AV) → List (List AV) → Prop) (Q : AV → List (List AV) → Prop) : Prop :=
  ∃ n0 n1, S (29 : Nat) [f.av, AV.int .i64 node] [] (AV.tup [AV.int .i64 n0, AV.int .i64 n1]) [] ∧ ((n1 != (0 : Int)) = true → ∃ b5, S (17 : Nat) [] [] (AV.bool b5) [] ∧ Q (AV.bool b5) []) ∧ ((n1 != (0 : Int)) = false → (decide (n0 < (0 : Int)) = true → ∃ b7, S (17 : Nat) [] [] (AV.bool b7) [] ∧ Q (AV.bool b7) []) ∧ (decide (n0 < (0 : Int)) = false → ∃ es7 n8, S (33 : Nat) [f.av, AV.slc (3 : Nat) [AV.agg [AV.int .i64 n0, AV.int .i64 ((IntKind.i64.wrap phase).tmod (3 : Int))]]] [] (AV.tup [AV.slc (3 : Nat) es7, AV.int .i64 n8]) [] ∧ ((n8 != (0 : Int)) = true → Q (AV.bool false) []) ∧ ((n8 != (0 : Int)) = false → ∃ (I12 : Nat → List AV → Prop), (∃ m14, I12 m14 [AV.int .i64 (0 : Int), AV.bool false, AV.int .i64 (0 : Int)]) ∧ ∀ (m14 : Nat) (n15 : Int) (b16 : Bool) (n17 : Int), I12 m14 [AV.int .i64 n15, AV.bool b16, AV.int .i64 n17] → (decide (n17 < (↑(List.map TFeNode.av f.Nodes).length : Int)) = true → ∃ es21 n22, S (36 : Nat) [f.av, AV.int .i64 n17] [] (AV.tup [AV.slc (3 : Nat) es21, AV.int .i64 n22]) [] ∧ ((n22 != (0 : Int)) = true → Q (AV.bool false) []) ∧ ((n22 != (0 : Int)) = false → ∃ b26, S (41 : Nat) [AV.slc (3 : Nat) es21, AV.int .i64 n0] [] (AV.bool b26) [] ∧ ((!b26) = true → f.cs = f.cs ∧ ∃ k31, k31 < m14 ∧ I12 k31 [AV.int .i64 n15, AV.bool b16, AV.int .i64 (IntKind.i64.wrap (n17 + (1 : Int)))]) ∧ ((!b26) = false → (b16 = true → (decide (n15 ≥ (↑es7.length : Int)) = true → Q (AV.bool false) []) ∧ (decide (n15 ≥ (↑es7.length : Int)) = false → ∃ n34 n35, ((0 : Int) ≤ n15 ∧ (2 : Nat) = (2 : Nat) ∧ es7[n15.toNat]? = some (AV.agg [AV.int .i64 n34, AV.int .i64 n35])) ∧ ((!(n34 == n17 && (n35 == (IntKind.i64.wrap phase).tmod (3 : Int) && true))) = true → Q (AV.bool false) []) ∧ ((!(n34 == n17 && (n35 == (IntKind.i64.wrap phase).tmod (3 : Int) && true))) = false → f.cs = f.cs ∧ ∃ k40, k40 < m14 ∧ I12 k40 [AV.int .i64 (IntKind.i64.wrap (n15 + (1 : Int))), AV.bool true, AV.int .i64 (IntKind.i64.wrap (n17 + (1 : Int)))]))) ∧ (b16 = false → (decide (n15 ≥ (↑es7.length : Int)) = true → Q (AV.bool false) []) ∧ (decide (n15 ≥ (↑es7.length : Int)) = false → ∃ n34 n35, ((0 : Int) ≤ n15 ∧ (2 : Nat) = (2 : Nat) ∧ es7[n15.toNat]? = some (AV.agg [AV.int .i64 n34, AV.int .i64 n35])) ∧ ((!(n34 == n17 && (n35 == (IntKind.i64.wrap phase).tmod (3 : Int) && true))) = true → Q (AV.bool false) []) ∧ ((!(n34 == n17 && (n35 == (IntKind.i64.wrap phase).tmod (3 : Int) && true))) = false → f.cs = f.cs ∧ ∃ k40, k40 < m14 ∧ I12 k40 [AV.int .i64 (IntKind.i64.wrap (n15 + (1 : Int))), AV.bool (n17 == node), AV.int .i64 (IntKind.i64.wrap (n17 + (1 : Int)))])))))) ∧ (decide (n17 < (↑(List.map TFeNode.av f.Nodes).length : Int)) = false → ((n15 == (↑es7.length : Int)) = true → (b16 = true → ∃ b25, S (17 : Nat) [] [] (AV.bool b25) [] ∧ Q (AV.bool b25) []) ∧ (b16 = false → Q (AV.bool false) [])) ∧ ((n15 == (↑es7.length : Int)) = false → Q (AV.bool false) [])))))
theorem r14 (f : TFeFeeder) (node : Int) (phase : Int) (S : SpecF) (Fr : FuncId → List AV → Nat → List AV → Prop) (Sq : FuncId → List AV → List (List AV) → List (List AV) → Prop) (Q : AV → List (List AV) → Prop) : awpF Try.prog (mkS Try.prog S Fr Sq ⟨[], [], [], [], []⟩ 0) 0 ⟨[0, 1, 2, 3, 6, 7, 8, 9, 10, 11, 12, 13, 14, 15, 30, 42, 47, 57, 61, 81], [⟨10, [(11, .int .i64 0), (12, .bool false), (13, .int .i64 0)], [], [], [], []⟩], [], []⟩ Try.f14 [f.av, .int .i64 node, .int .u8 phase] [] Q = R14 f node phase S Fr Sq Q := by kernel_rfl
theorem s14 (f : TFeFeeder) (node : Int) (phase : Int) (v : AV) (O : List (List AV)) (h : R14 f node phase (SpecOf Try.prog) (FreshOf Try.prog) (SeqOf Try.prog) (fun r O' => r = v ∧ O' = O)) : SpecOf Try.prog 14 [f.av, .int .i64 node, .int .u8 phase] [] v O :=
  spec_by (boxes := []) mixed (by exact trivial) Try.func14 Try.call14 rfl rfl rfl (Nat.le_of_ble_eq_true rfl) (r14 f node phase (SpecOf Try.prog) (FreshOf Try.prog) (SeqOf Try.prog) _) h
theorem c14 (f : TFeFeeder) (hn : NOK f) (node phase : Int) (hph : 0 ≤ phase ∧ phase ≤ 255) : Sp 14 [f.av, .int .i64 node, .int .u8 phase] [] (.bool true) [] := s14 f node phase _ _ (by
  unfold R14
  have aw : ∃ b, Sp 17 [] [] (.bool b) [] ∧ AV.bool b = AV.bool true ∧ ([] : List (List AV)) = [] := ⟨_, c17, rfl, rfl⟩
  obtain ⟨p, hp, hp2⟩ : ∃ p : Nat, (IntKind.i64.wrap phase).tmod 3 = p ∧ p ≤ 2 := by
    rw [i64 (by omega), Int.tmod_eq_emod_of_nonneg (by omega)]
    exact ⟨(phase % 3).toNat, by omega, by omega⟩
  rw [hp]
  refine ⟨_, _, c29 f hn node, fun _ => aw, fun h => ⟨fun _ => aw, fun h2 => ?_⟩⟩
  have hask : askedS f node = 0 := by
    by_cases ha : askedS f node = 0
    · exact ha
    · rw [ownR, if_pos ha] at h; simp at h; exact absurd h ha
  obtain ⟨hf, k, rfl, hk⟩ := asked_ok hask
  have hc := asked_check' hask
  have hnn := hf.nn
  have hown : ownR f k = (ownS f k, 0) := by rw [ownR, if_neg (by rw [hask]; simp)]; rfl
  rw [hown] at h2 ⊢
  obtain ⟨o, ho, ho0, hol, hoa⟩ := own_node hf hk (by simpa using h2)
  rw [ho]
  have h33 := c33 f hn [⟨o, p⟩]
  rw [dark_one hc ho0 hol hp2] at h33
  have hlen := fun i => only_len (f := f) (own := o) (p := p) i
  have hlN := hlen f.Nodes.length
  refine ⟨_, _, h33, fun h => (by simp at h), fun _ => ?_⟩
  simp only [List.length_map]
  refine ⟨fun m vs => ∃ i : Nat, i ≤ f.Nodes.length ∧ m = f.Nodes.length - i ∧ vs = [.int .i64 ((onlyL f o p i).length : Nat), .bool (decide (k < i)), .int .i64 i], ⟨_, 0, by omega, rfl, rfl⟩, ?_⟩
  rintro m n b n2 ⟨i, hi, rfl, hv⟩
  have hv' := hv
  simp only [List.cons.injEq, AV.int.injEq, true_and, AV.bool.injEq, and_true] at hv'
  obtain ⟨rfl, rfl, rfl⟩ := hv'
  have hli := hlen i
  refine ⟨fun g => ?_, fun g => ?_⟩
  · have hlt : i < f.Nodes.length := by simpa using g
    have hw : IntKind.i64.wrap ((i : Int) + 1) = ((i + 1 : Nat) : Int) := wrapN (by omega)
    have h41 := c41 ((upL f i).reverse.map fun j : Nat => (j : Int)) (by rw [List.length_map, List.length_reverse]; have := upL_len hf hlt; omega) o
    rw [path_has, List.map_map] at h41
    refine ⟨_, _, c36b f hn hc hlt, fun h => (by simp at h), fun _ => ⟨_, h41, fun ha => ⟨by trivial, ?_⟩, fun ha => ?_⟩⟩
    · have ha : anc f o i = false := by simpa using ha
      have hki : k ≠ i := by rintro rfl; rw [hoa] at ha; cases ha
      have hd : decide (k < i) = decide (k < i + 1) := by
        by_cases h : k < i
        · simp [h]; omega
        · simp [h]; omega
      exact ⟨_, (by omega : f.Nodes.length - (i + 1) < f.Nodes.length - i), i + 1, by omega, rfl, by rw [hw, onlyL, if_neg (by rw [ha]; simp), List.append_nil, hd]⟩
    · have ha : anc f o i = true := by simpa using ha
      have hat := only_at (f := f) (own := o) (p := p) hlt ha
      have hal : (onlyL f o p i).length < (onlyL f o p f.Nodes.length).length := (List.getElem?_eq_some_iff.1 hat).1
      have hat' : (List.map TFeOpen.av (onlyL f o p f.Nodes.length))[(((onlyL f o p i).length : Nat) : Int).toNat]? = some (TFeOpen.av ⟨i, p⟩) := by
        rw [Int.toNat_natCast, List.getElem?_map, hat]; rfl
      have next : ∀ b : Bool, b = decide (k < i + 1) → ∃ m', m' < f.Nodes.length - i ∧ ∃ j : Nat, j ≤ f.Nodes.length ∧ m' = f.Nodes.length - j ∧ [AV.int .i64 (IntKind.i64.wrap (((onlyL f o p i).length : Nat) + 1)), .bool b, .int .i64 (IntKind.i64.wrap ((i : Int) + 1))] = [.int .i64 ((onlyL f o p j).length : Nat), .bool (decide (k < j)), .int .i64 j] := by
        rintro _ rfl
        refine ⟨_, (by omega : f.Nodes.length - (i + 1) < f.Nodes.length - i), i + 1, by omega, rfl, ?_⟩
        rw [hw, wrapN (by omega), onlyL, if_pos ha, List.length_append]; rfl
      refine ⟨fun hki => ⟨fun h => (by simp at h; omega), fun _ => ⟨_, _, ⟨by omega, by trivial, hat'⟩, fun h => (by simp at h), fun _ => ⟨by trivial, next _ ?_⟩⟩⟩, fun hki => ⟨fun h => (by simp at h; omega), fun _ => ⟨_, _, ⟨by omega, by trivial, hat'⟩, fun h => (by simp at h), fun _ => ⟨by trivial, next _ ?_⟩⟩⟩⟩
      · have : k < i := by simpa using hki
        simp; omega
      · have : ¬ k < i := by simpa using hki
        rw [Bool.eq_iff_iff]; simp; omega
  · obtain rfl : i = f.Nodes.length := by simp at g; omega
    refine ⟨fun _ => ⟨fun _ => ⟨_, c17, rfl, by trivial⟩, fun h => ?_⟩, fun h => ?_⟩
    · simp at h; omega
    · simp at h)
end Go.Proofs.Ytbdbnpnichkcjaa

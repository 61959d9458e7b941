/- More open phases leave no more supply: the plain law and the law's contract. -/
import Derived.Test.YtbdbnpnichkcjaaMd
import Derived.Test.YtbdbnpnichkcjaaAw
namespace Go.Proofs.Ytbdbnpnichkcjaa
open Go.RowKit
theorem und_trans {f : TFeFeeder} (hf : OK f) {a b : Nat} (hb : b < f.Nodes.length) (hab : undB f a b = true) : ∀ {c : Nat}, c < f.Nodes.length → undB f b c = true → undB f a c = true := by
  intro c
  induction c using Nat.strongRecOn with
  | ind c ih =>
    intro hc hbc
    by_cases hb0 : b = 0
    · subst hb0
      have : a = 0 := by
        unfold undB at hab
        rw [anc_zero] at hab
        simpa using hab
      subst this; rfl
    · by_cases h0 : c = 0
      · subst h0
        unfold undB at hbc
        rw [anc_zero] at hbc
        exact absurd (by simpa using hbc) hb0
      · rcases und_cases hf hc h0 hb0 hbc with rfl | h
        · exact hab
        · have hp := (par_lt hf hc h0).1
          exact und_step hf hc h0 (ih _ hp (by omega) h)
def inD (f : TFeFeeder) (l : List TFeOpen) (x : TFeOpen) : Bool := darkB f l x.Node.toNat x.Phase.toNat
theorem darkP_mem {f : TFeFeeder} {l : List TFeOpen} {j : Nat} : ∀ {q : Nat} {x : TFeOpen}, x ∈ darkP f l j q ↔ ∃ p : Nat, p < q ∧ x = ⟨j, p⟩ ∧ darkB f l j p = true := by
  intro q
  induction q with
  | zero => intro x; simp [darkP]
  | succ q ih =>
    intro x
    rw [darkP, List.mem_append, ih]
    constructor
    · rintro (⟨p, h1, h2, h3⟩ | h)
      · exact ⟨p, by omega, h2, h3⟩
      · split at h
        · rename_i hd
          rw [List.mem_singleton] at h
          exact ⟨q, by omega, h, hd⟩
        · simp at h
    · rintro ⟨p, h1, h2, h3⟩
      by_cases hp : p = q
      · subst hp; right; rw [if_pos h3, h2]; simp
      · exact .inl ⟨p, by omega, h2, h3⟩
theorem darkN_mem {f : TFeFeeder} {l : List TFeOpen} : ∀ {n : Nat} {x : TFeOpen}, x ∈ darkN f l n ↔ ∃ j p : Nat, j < n ∧ p < 3 ∧ x = ⟨j, p⟩ ∧ darkB f l j p = true := by
  intro n
  induction n with
  | zero => intro x; simp [darkN]
  | succ n ih =>
    intro x
    rw [darkN, List.mem_append, ih, darkP_mem]
    constructor
    · rintro (⟨j, p, h1, h2, h3, h4⟩ | ⟨p, h2, h3, h4⟩)
      · exact ⟨j, p, by omega, h2, h3, h4⟩
      · exact ⟨n, p, by omega, h2, h3, h4⟩
    · rintro ⟨j, p, h1, h2, h3, h4⟩
      by_cases hj : j = n
      · subst hj; exact .inr ⟨p, h2, h3, h4⟩
      · exact .inl ⟨j, p, by omega, h2, h3, h4⟩
/-- What is dark with fewer open phases is a part of what is dark. -/
theorem darkP_filter {f : TFeFeeder} {l m : List TFeOpen} {j : Nat} (h : ∀ p, darkB f l j p = true → darkB f m j p = true) : ∀ q, (darkP f m j q).filter (inD f l) = darkP f l j q := by
  intro q
  induction q with
  | zero => rfl
  | succ q ih =>
    rw [darkP, darkP, List.filter_append, ih]
    congr 1
    have e : inD f l ⟨(j : Nat), (q : Nat)⟩ = darkB f l j q := rfl
    cases hl : darkB f l j q with
    | true => rw [if_pos (h q hl), List.filter_cons, e, hl]; rfl
    | false =>
      split
      · rw [List.filter_cons, e, hl]; rfl
      · rfl
theorem darkN_filter {f : TFeFeeder} {l m : List TFeOpen} (h : ∀ j p, darkB f l j p = true → darkB f m j p = true) : ∀ n, (darkN f m n).filter (inD f l) = darkN f l n := by
  intro n
  induction n with
  | zero => rfl
  | succ n ih => rw [darkN, darkN, List.filter_append, ih, darkP_filter (h n)]
theorem darkN_congr {f : TFeFeeder} {l m : List TFeOpen} : ∀ n, (∀ j p, j < n → p < 3 → darkB f l j p = darkB f m j p) → darkN f l n = darkN f m n := by
  have hP : ∀ j q, q ≤ 3 → (∀ p, p < 3 → darkB f l j p = darkB f m j p) → darkP f l j q = darkP f m j q := by
    intro j q
    induction q with
    | zero => intro _ _; rfl
    | succ q ih => intro hq h; rw [darkP, darkP, ih (by omega) h, h q (by omega)]
  intro n
  induction n with
  | zero => intro _; rfl
  | succ n ih => intro h; rw [darkN, darkN, ih (fun j p hj hp => h j p (by omega) hp), hP n 3 (by omega) (fun p hp => h n p (by omega) hp)]
/-- To open all that is dark makes nothing else dark. -/
theorem dark_again {f : TFeFeeder} (hf : OK f) {m : List TFeOpen} (hm : ∀ x ∈ m, badO f x = false) : darkN f (darkN f m f.Nodes.length) f.Nodes.length = darkN f m f.Nodes.length := by
  refine darkN_congr _ fun j p hj hp => ?_
  rw [Bool.eq_iff_iff]
  constructor
  · intro h
    obtain ⟨x, hx, hq⟩ := List.any_eq_true.1 h
    obtain ⟨j', p', h1, h2, rfl, h4⟩ := darkN_mem.1 hx
    simp only [Int.toNat_natCast, Bool.and_eq_true, decide_eq_true_eq] at hq
    obtain ⟨rfl, hu⟩ := hq
    obtain ⟨y, hy, hq⟩ := List.any_eq_true.1 h4
    simp only [Bool.and_eq_true, decide_eq_true_eq] at hq
    exact List.any_eq_true.2 ⟨y, hy, by simp only [Bool.and_eq_true, decide_eq_true_eq]; exact ⟨hq.1, und_trans hf h1 hq.2 hj hu⟩⟩
  · intro h
    exact List.any_eq_true.2 ⟨⟨j, p⟩, darkN_mem.2 ⟨j, p, hj, hp, rfl, h⟩, by simp [und_self hf hj]⟩
theorem darkS_ok {f : TFeFeeder} {l : List TFeOpen} (h : (darkS f l).2 = 0) : OK f ∧ l.length ≤ 120 ∧ (∀ x ∈ l, badO f x = false) ∧ darkS f l = (darkN f l f.Nodes.length, 0) := by
  have hc : (checkF f).2.2 = 0 := by
    by_cases hc : (checkF f).2.2 = 0
    · exact hc
    · rw [darkS, if_pos hc] at h; exact absurd h hc
  have hl : l.length ≤ 120 := by
    by_cases g : l.length > 120
    · rw [darkS, if_neg (by simp [hc]), if_pos g] at h; cases h
    · omega
  have ha : l.any (badO f) = false := by
    cases hb : l.any (badO f) with
    | false => rfl
    | true => rw [darkS, if_neg (by simp [hc]), if_neg (by omega), hb, if_pos rfl] at h; cases h
  refine ⟨ok_of hc, hl, fun x hx => ?_, by rw [darkS, if_neg (by simp [hc]), if_neg (by omega), if_neg (by rw [ha]; simp)]⟩
  cases hb : badO f x with
  | false => rfl
  | true => rw [List.any_eq_true.2 ⟨x, hx, hb⟩] at ha; cases ha
theorem darkS_again {f : TFeFeeder} {m : List TFeOpen} (h : (darkS f m).2 = 0) : darkS f (darkN f m f.Nodes.length) = (darkN f m f.Nodes.length, 0) := by
  obtain ⟨hf, _, hb, hD⟩ := darkS_ok h
  have hlen := darkN_len (f := f) (l := m) f.Nodes.length
  have hnn := hf.nn
  have hc : (checkF f).2.2 = 0 := by
    by_cases hc : (checkF f).2.2 = 0
    · exact hc
    · rw [darkS, if_pos hc] at h; exact absurd h hc
  have ha : (darkN f m f.Nodes.length).any (badO f) = false := by
    cases hx : (darkN f m f.Nodes.length).any (badO f) with
    | false => rfl
    | true =>
      obtain ⟨x, hx, hq⟩ := List.any_eq_true.1 hx
      obtain ⟨j, p, h1, h2, rfl, _⟩ := darkN_mem.1 hx
      simp only [badO, Bool.or_eq_true, Bool.not_eq_true'] at hq
      rcases hq with hq | hq
      · rw [inB_iff.2 ⟨by omega, by omega⟩] at hq; cases hq
      · rw [inB_iff.2 ⟨by omega, by omega⟩] at hq; cases hq
  rw [darkS, if_neg (by simp [hc]), if_neg (by omega), if_neg (by rw [ha]; simp), dark_again hf hb]
/-- A part of a list, by how much of it is seen. -/
theorem part_hit {q : TFeOpen → Bool} {M : List TFeOpen} {i : Nat} {x : TFeOpen} (h : M[i]? = some x) (hq : q x = true) : (M.filter q)[((M.take i).filter q).length]? = some x ∧ ((M.take (i + 1)).filter q).length = ((M.take i).filter q).length + 1 := by
  have hlt : i < M.length := (List.getElem?_eq_some_iff.1 h).1
  have hd : M = M.take i ++ x :: M.drop (i + 1) := by
    conv => lhs; rw [← List.take_append_drop i M]
    rw [List.drop_eq_getElem_cons hlt]
    rw [List.getElem?_eq_getElem hlt] at h
    rw [Option.some.inj h]
  have e : M.filter q = (M.take i).filter q ++ x :: (M.drop (i + 1)).filter q := by
    conv => lhs; rw [hd]
    rw [List.filter_append, List.filter_cons, hq]; rfl
  constructor
  · rw [e, List.getElem?_append_right (Nat.le_refl _), Nat.sub_self]; rfl
  · rw [List.take_add_one, h, List.filter_append, List.length_append]
    simp [hq]
theorem part_miss {q : TFeOpen → Bool} {M : List TFeOpen} {i : Nat} {x : TFeOpen} (h : M[i]? = some x) (hq : q x = false) : ((M.take (i + 1)).filter q).length = ((M.take i).filter q).length := by
  rw [List.take_add_one, h, List.filter_append, List.length_append]
  simp [hq]
theorem part_le {q : TFeOpen → Bool} {M : List TFeOpen} {i : Nat} : ((M.take i).filter q).length ≤ (M.filter q).length := by
  conv => rhs; rw [← List.take_append_drop i M, List.filter_append, List.length_append]
  omega
def R11 (f : TFeFeeder) (open' : List TFeOpen) (more : TFeOpen) (S : SpecF) (_Fr : FuncId → List AV → Nat → List AV → Prop) (_Sq : FuncId → List AV → List (List AV) → List (List AV) → Prop) (Q : AV → List (List AV) → Prop) : Prop :=
  ∃ es0 n1, S (33 : Nat) [f.av, AV.slc (3 : Nat) (List.map TFeOpen.av open')] [] (AV.tup [AV.slc (3 : Nat) es0, AV.int .i64 n1]) [] ∧ elemsOf (2 : Nat) [more.av] ∧ ((([] : List AV) = [] ∨ (0 : Nat) < (1 : Nat)) ∧ ((0 : Nat) + (1 : Nat) + (512 : Nat)) * (81 : Nat) ≤ (1125899906842624 : Nat) ∧ elemsOf (2 : Nat) [] ∧ ones more.cs = true ∧ ones [] = true) ∧ elemsOf (2 : Nat) (List.map TFeOpen.av open') ∧ ((2 : Nat) = ((0 : Nat) + (1 : Nat)) * (2 : Nat) ∧ ((0 : Nat) + (1 : Nat) + (List.map TFeOpen.av open').length + (512 : Nat)) * (81 : Nat) ≤ (1125899906842624 : Nat) ∧ ones (List.flatMap AV.cells (List.map TFeOpen.av open')) = true ∧ ones more.cs = true) ∧ (0 : Nat) + ((0 : Nat) + (1 : Nat) + (List.map TFeOpen.av open').length) * (2 : Nat) ≤ (AV.int .i64 more.Node :: AV.int .i64 more.Phase :: (List.flatMap AV.cells (List.map TFeOpen.av open'))).length ∧ ∃ es8 n9, S (33 : Nat) [f.av, AV.slc (3 : Nat) (chunks (2 : Nat) (isAggT Try.prog (73 : Nat)) ((0 : Nat) + (1 : Nat) + (List.map TFeOpen.av open').length) (AV.int .i64 more.Node :: AV.int .i64 more.Phase :: (List.flatMap AV.cells (List.map TFeOpen.av open'))))] [] (AV.tup [AV.slc (3 : Nat) es8, AV.int .i64 n9]) [] ∧ ((n1 != (0 : Int)) = true → ∃ b13, S (17 : Nat) [] [] (AV.bool b13) [] ∧ Q (AV.bool b13) []) ∧ ((n1 != (0 : Int)) = false → ((n9 != (0 : Int)) = true → ∃ b15, S (17 : Nat) [] [] (AV.bool b15) [] ∧ Q (AV.bool b15) []) ∧ ((n9 != (0 : Int)) = false → ∃ (I15 : Nat → List AV → Prop), (∃ m17, I15 m17 TEncl.zero.cs) ∧ ∀ (m17 : Nat) (n18 n19 : Int), I15 m17 [AV.int .i64 n18, AV.int .i64 n19] → (decide (n19 < (↑es8.length : Int)) = true → (decide (n18 < (↑es0.length : Int)) = true → ∃ n25 n26, ((0 : Int) ≤ n18 ∧ (2 : Nat) = (2 : Nat) ∧ es0[n18.toNat]? = some (AV.agg [AV.int .i64 n25, AV.int .i64 n26])) ∧ ∃ n28 n29, ((0 : Int) ≤ n19 ∧ (2 : Nat) = (2 : Nat) ∧ es8[n19.toNat]? = some (AV.agg [AV.int .i64 n28, AV.int .i64 n29])) ∧ ((n25 == n28 && (n26 == n29 && true)) = true → f.cs = f.cs ∧ more.cs = more.cs ∧ ∃ k35, k35 < m17 ∧ I15 k35 [AV.int .i64 (IntKind.i64.wrap (n18 + (1 : Int))), AV.int .i64 (IntKind.i64.wrap (n19 + (1 : Int)))]) ∧ ((n25 == n28 && (n26 == n29 && true)) = false → f.cs = f.cs ∧ more.cs = more.cs ∧ ∃ k35, k35 < m17 ∧ I15 k35 [AV.int .i64 n18, AV.int .i64 (IntKind.i64.wrap (n19 + (1 : Int)))])) ∧ (decide (n18 < (↑es0.length : Int)) = false → f.cs = f.cs ∧ more.cs = more.cs ∧ ∃ k27, k27 < m17 ∧ I15 k27 [AV.int .i64 n18, AV.int .i64 (IntKind.i64.wrap (n19 + (1 : Int)))])) ∧ (decide (n19 < (↑es8.length : Int)) = false → ∃ es23 n24, S (33 : Nat) [f.av, AV.slc (3 : Nat) es8] [] (AV.tup [AV.slc (3 : Nat) es23, AV.int .i64 n24]) [] ∧ ((n18 != (↑es0.length : Int)) = true → Q (AV.bool false) []) ∧ ((n18 != (↑es0.length : Int)) = false → ((n24 != (0 : Int)) = true → Q (AV.bool false) []) ∧ ((n24 != (0 : Int)) = false → (((↑es23.length : Int) != (↑es8.length : Int)) = true → Q (AV.bool false) []) ∧ (((↑es23.length : Int) != (↑es8.length : Int)) = false → ∃ (I32 : Nat → List AV → Prop), (∃ m34, I32 m34 [AV.int .i64 (0 : Int)]) ∧ ∀ (m34 : Nat) (n35 : Int), I32 m34 [AV.int .i64 n35] → (decide (n35 < (↑es8.length : Int)) = true → ∃ n39 n40, ((0 : Int) ≤ n35 ∧ (2 : Nat) = (2 : Nat) ∧ es23[n35.toNat]? = some (AV.agg [AV.int .i64 n39, AV.int .i64 n40])) ∧ ∃ n42 n43, ((0 : Int) ≤ n35 ∧ (2 : Nat) = (2 : Nat) ∧ es8[n35.toNat]? = some (AV.agg [AV.int .i64 n42, AV.int .i64 n43])) ∧ ((!(n39 == n42 && (n40 == n43 && true))) = true → Q (AV.bool false) []) ∧ ((!(n39 == n42 && (n40 == n43 && true))) = false → f.cs = f.cs ∧ more.cs = more.cs ∧ ∃ k49, k49 < m34 ∧ I32 k49 [AV.int .i64 (IntKind.i64.wrap (n35 + (1 : Int)))])) ∧ (decide (n35 < (↑es8.length : Int)) = false → ∃ b39, S (17 : Nat) [] [] (AV.bool b39) [] ∧ Q (AV.bool b39) [])))))))
theorem r11 (f : TFeFeeder) (open' : List TFeOpen) (more : TFeOpen) (S : SpecF) (Fr : FuncId → List AV → Nat → List AV → Prop) (Sq : FuncId → List AV → List (List AV) → List (List AV) → Prop) (Q : AV → List (List AV) → Prop) : awpF Try.prog (mkS Try.prog S Fr Sq ⟨[], [], [], [], []⟩ 0) 0 ⟨[0, 1, 2, 3, 5, 6, 7, 8, 9, 10, 11, 12, 13, 14, 37, 42, 59, 82, 86, 97], [⟨7, [(11, .int .i64 0), (12, .int .i64 0)], [], [], [], []⟩, ⟨15, [(14, .int .i64 0)], [], [], [], []⟩], [], []⟩ Try.f11 [f.av, .slc 3 (List.map TFeOpen.av open'), more.av] [] Q = R11 f open' more S Fr Sq Q := by kernel_rfl
theorem s11 (f : TFeFeeder) (open' : List TFeOpen) (more : TFeOpen) (v : AV) (O : List (List AV)) (h : R11 f open' more (SpecOf Try.prog) (FreshOf Try.prog) (SeqOf Try.prog) (fun r O' => r = v ∧ O' = O)) : SpecOf Try.prog 11 [f.av, .slc 3 (List.map TFeOpen.av open'), more.av] [] v O :=
  spec_by (boxes := []) mixed (by exact trivial) Try.func11 Try.call11 rfl rfl rfl (Nat.le_of_ble_eq_true rfl) (r11 f open' more (SpecOf Try.prog) (FreshOf Try.prog) (SeqOf Try.prog) _) h
set_option maxRecDepth 10000 in
theorem c11 (f : TFeFeeder) (hn : NOK f) (l : List TFeOpen) (hl : l.length ≤ 2 ^ 43) (more : TFeOpen) : Sp 11 [f.av, .slc 3 (l.map TFeOpen.av), more.av] [] (.bool true) [] := s11 f l more _ _ (by
  unfold R11
  have aw : ∃ b, Sp 17 [] [] (.bool b) [] ∧ AV.bool b = AV.bool true ∧ ([] : List (List AV)) = [] := ⟨_, c17, rfl, rfl⟩
  obtain ⟨f1, f2, f3, f4⟩ := flatO l
  have hcons : chunks 2 (isAggT Try.prog 73) (0 + 1 + (List.map TFeOpen.av l).length) (AV.int .i64 more.Node :: AV.int .i64 more.Phase :: List.flatMap AV.cells (List.map TFeOpen.av l)) = (more :: l).map TFeOpen.av := by
    have := chunksO (more :: l)
    rw [List.length_map, List.length_cons] at this
    rw [List.length_map, show 0 + 1 + l.length = l.length + 1 by omega]
    exact this
  have h2 := c33 f hn (more :: l)
  rw [← hcons] at h2
  refine ⟨_, _, c33 f hn l, fun v hv => ?_, ⟨.inl rfl, by omega, fun v hv => (by simp at hv), rfl, rfl⟩, f1, ⟨rfl, by rw [List.length_map]; omega, f3, rfl⟩, ?_, _, _, h2, fun _ => aw, fun g1 => ⟨fun _ => aw, fun g2 => ?_⟩⟩
  · rw [List.mem_singleton] at hv; rw [hv]; rfl
  · show 0 + (0 + 1 + (List.map TFeOpen.av l).length) * 2 ≤ (AV.int .i64 more.Node :: AV.int .i64 more.Phase :: List.flatMap AV.cells (List.map TFeOpen.av l)).length
    rw [List.length_cons, List.length_cons, f2, List.length_map]; omega
  have g1 : (darkS f l).2 = 0 := by simpa using g1
  have g2 : (darkS f (more :: l)).2 = 0 := by simpa using g2
  obtain ⟨hf, hl1, hb1, hD1⟩ := darkS_ok g1
  obtain ⟨_, hl2, hb2, hD2⟩ := darkS_ok g2
  have hag := c33 f hn (darkN f (more :: l) f.Nodes.length)
  rw [darkS_again g2] at hag
  have hlen := darkN_len (f := f) (l := more :: l) f.Nodes.length
  have hnn := hf.nn
  have hfil := darkN_filter (f := f) (l := l) (m := more :: l) (fun j p h => by unfold darkB at *; rw [List.any_cons, h, Bool.or_true]) f.Nodes.length
  rw [hD1, hD2]
  dsimp only
  rw [← hfil]
  generalize darkN f (more :: l) f.Nodes.length = M at hag hlen
  simp only [List.length_map]
  refine ⟨fun m vs => ∃ i : Nat, i ≤ M.length ∧ m = M.length - i ∧ vs = [.int .i64 (((M.take i).filter (inD f l)).length : Nat), .int .i64 i], ⟨_, 0, by omega, rfl, rfl⟩, ?_⟩
  rintro m n1 n2 ⟨i, hi, rfl, hv⟩
  have hv' := hv
  simp only [List.cons.injEq, AV.int.injEq, true_and, and_true] at hv'
  obtain ⟨rfl, rfl⟩ := hv'
  have hple := part_le (q := inD f l) (M := M) (i := i)
  have hpm : (M.filter (inD f l)).length ≤ M.length := List.length_filter_le _ _
  refine ⟨fun g => ?_, fun g => ?_⟩
  · have hlt : i < M.length := by simpa using g
    obtain ⟨x, hx, hx'⟩ := map_getN (f := TFeOpen.av) hlt
    have hw : IntKind.i64.wrap ((i : Int) + 1) = ((i + 1 : Nat) : Int) := wrapN (by omega)
    have hit : inD f l x = true → IntKind.i64.wrap ((((M.take i).filter (inD f l)).length : Nat) + 1) = (((M.take (i + 1)).filter (inD f l)).length : Nat) := fun hq => by
      rw [(part_hit hx hq).2]; exact wrapN (by omega)
    have next : ∀ n : Int, n = (((M.take (i + 1)).filter (inD f l)).length : Nat) → ∃ m', m' < M.length - i ∧ ∃ j : Nat, j ≤ M.length ∧ m' = M.length - j ∧ [AV.int .i64 n, .int .i64 (IntKind.i64.wrap ((i : Int) + 1))] = [.int .i64 (((M.take j).filter (inD f l)).length : Nat), .int .i64 j] := by
      rintro _ rfl
      exact ⟨_, (by omega : M.length - (i + 1) < M.length - i), i + 1, by omega, rfl, by rw [hw]⟩
    refine ⟨fun g3 => ?_, fun g3 => ⟨by trivial, by trivial, next _ ?_⟩⟩
    · have hlt2 : ((M.take i).filter (inD f l)).length < (M.filter (inD f l)).length := by simpa using g3
      obtain ⟨y, hy, hy'⟩ := map_getN (f := TFeOpen.av) hlt2
      have hyq : inD f l y = true := (List.mem_filter.1 (List.mem_of_getElem? hy)).2
      refine ⟨y.Node, y.Phase, ⟨by omega, by trivial, hy'⟩, x.Node, x.Phase, ⟨by omega, by trivial, hx'⟩, fun q => ⟨by trivial, by trivial, next _ ?_⟩, fun q => ⟨by trivial, by trivial, next _ ?_⟩⟩
      · have hq : inD f l x = true := by
          simp only [Bool.and_true, Bool.and_eq_true, beq_iff_eq] at q
          unfold inD at hyq ⊢
          rw [← q.1, ← q.2]; exact hyq
        exact hit hq
      · have hq : inD f l x = false := by
          cases hq : inD f l x with
          | false => rfl
          | true =>
            have := (part_hit hx hq).1
            rw [hy] at this
            cases this
            simp at q
        rw [part_miss hx hq]
    · have hq : inD f l x = false := by
        cases hq : inD f l x with
        | false => rfl
        | true =>
          have := (List.getElem?_eq_some_iff.1 (part_hit hx hq).1).1
          simp at g3; omega
      rw [part_miss hx hq]
  · obtain rfl : i = M.length := by simp at g; omega
    rw [List.take_length]
    refine ⟨_, _, hag, fun h => (by simp at h), fun _ => ⟨fun h => (by simp at h), fun _ => ⟨fun h => (by simp at h), fun _ => ?_⟩⟩⟩
    refine ⟨fun m vs => ∃ i : Nat, i ≤ M.length ∧ m = M.length - i ∧ vs = [.int .i64 i], ⟨_, 0, by omega, rfl, rfl⟩, ?_⟩
    rintro m n ⟨i, hi, rfl, hv⟩
    cases hv
    refine ⟨fun g => ?_, fun _ => ⟨_, c17, rfl, by trivial⟩⟩
    have hlt : i < M.length := by simpa using g
    obtain ⟨x, hx, hx'⟩ := map_getN (f := TFeOpen.av) hlt
    refine ⟨x.Node, x.Phase, ⟨by omega, by trivial, hx'⟩, x.Node, x.Phase, ⟨by omega, by trivial, hx'⟩, fun q => (by simp at q), fun _ => ?_⟩
    repeat first | refine And.intro rfl ?_ | refine And.intro trivial ?_
    exact ⟨_, (by omega : M.length - (i + 1) < M.length - i), i + 1, by omega, rfl, by rw [wrapN (by omega)]⟩)
end Go.Proofs.Ytbdbnpnichkcjaa

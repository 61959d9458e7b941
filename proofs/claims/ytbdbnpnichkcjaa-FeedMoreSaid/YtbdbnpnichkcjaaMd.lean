/- Contracts: what is behind a node goes into a map. Contracts: what is dark. Contracts: the reference's Dark, and lists compared. -/
import Derived.Test.YtbdbnpnichkcjaaU
import Derived.Test.YtbdbnpnichkcjaaRc
import Derived.Test.YtbdbnpnichkcjaaQ
import Derived.Test.YtbdbnpnichkcjaaX6
import Derived.Test.YtbdbnpnichkcjaaFr
namespace Go.Proofs.Ytbdbnpnichkcjaa
open Go.RowKit
/-- Behind a node, or the node itself; behind the source is all. -/
def undB (f : TFeFeeder) (i j : Nat) : Bool := i == 0 || anc f i j
theorem und_self {f : TFeFeeder} (hf : OK f) {i : Nat} (h : i < f.Nodes.length) : undB f i i = true := by
  by_cases h0 : i = 0
  · subst h0; rfl
  · unfold undB; rw [anc_succ hf h h0]; simp
theorem und_step {f : TFeFeeder} (hf : OK f) {i j : Nat} (h : j < f.Nodes.length) (h0 : j ≠ 0) (hu : undB f i (par f j) = true) : undB f i j = true := by
  unfold undB at *
  rw [anc_succ hf h h0]
  simp only [Bool.or_eq_true] at *
  rcases hu with hu | hu
  · exact .inl hu
  · exact .inr (.inr hu)
theorem und_cases {f : TFeFeeder} (hf : OK f) {i j : Nat} (h : j < f.Nodes.length) (h0 : j ≠ 0) (hi : i ≠ 0) (hu : undB f i j = true) : i = j ∨ undB f i (par f j) = true := by
  unfold undB at *
  rw [anc_succ hf h h0] at hu
  simp only [Bool.or_eq_true, beq_iff_eq, decide_eq_true_eq] at *
  rcases hu with hu | hu | hu
  · exact absurd hu hi
  · exact .inl hu
  · exact .inr (.inr hu)
theorem und_split {f : TFeFeeder} (hf : OK f) {i : Nat} (hi : i < f.Nodes.length) : ∀ {j : Nat}, j < f.Nodes.length →
    (undB f i j = true ↔ j = i ∨ ∃ b, b < f.Nodes.length ∧ b ≠ 0 ∧ par f b = i ∧ undB f b j = true) := by
  intro j
  induction j using Nat.strongRecOn with
  | ind j ih =>
    intro hj
    by_cases h0 : j = 0
    · subst h0
      constructor
      · intro h
        unfold undB at h
        rw [anc_zero] at h
        have : i = 0 := by simpa using h
        exact .inl this.symm
      · rintro (rfl | ⟨b, _, hb0, _, hb⟩)
        · exact und_self hf hi
        · unfold undB at hb
          rw [anc_zero] at hb
          exact absurd (by simpa using hb) hb0
    · have hp := (par_lt hf hj h0).1
      have ih' := ih _ hp (by omega)
      constructor
      · intro h
        have up : undB f i (par f j) = true → j = i ∨ ∃ b, b < f.Nodes.length ∧ b ≠ 0 ∧ par f b = i ∧ undB f b j = true := fun h => by
          rcases ih'.1 h with h | ⟨b, h1, h2, h3, h4⟩
          · exact .inr ⟨j, hj, h0, h, und_self hf hj⟩
          · exact .inr ⟨b, h1, h2, h3, und_step hf hj h0 h4⟩
        by_cases hi0 : i = 0
        · exact up (by subst hi0; rfl)
        · rcases und_cases hf hj h0 hi0 h with h | h
          · exact .inl h.symm
          · exact up h
      · rintro (rfl | ⟨b, h1, h2, h3, h4⟩)
        · exact und_self hf hi
        · rcases und_cases hf hj h0 h2 h4 with rfl | h
          · exact und_step hf hj h0 (by rw [h3]; exact und_self hf hi)
          · exact und_step hf hj h0 (ih'.2 (.inr ⟨b, h1, h2, h3, h⟩))
/-- The nodes that a walk from a node visits, in its order. -/
def visF (f : TFeFeeder) : Nat → Nat → List Nat
  | 0, _ => []
  | d + 1, i => i :: (List.range f.Nodes.length).flatMap fun b => if b ≠ 0 ∧ par f b = i then visF f d b else []
theorem vis_mem {f : TFeFeeder} (hf : OK f) : ∀ (d i j : Nat), f.Nodes.length - i ≤ d → i < f.Nodes.length → (j ∈ visF f d i ↔ j < f.Nodes.length ∧ undB f i j = true) := by
  intro d
  induction d with
  | zero => intro i j h1 h2; omega
  | succ d ih =>
    intro i j h1 h2
    rw [visF, List.mem_cons, List.mem_flatMap]
    constructor
    · rintro (rfl | ⟨b, hb, hj⟩)
      · exact ⟨h2, und_self hf h2⟩
      · split at hj
        · rename_i hc
          have hb := List.mem_range.1 hb
          have hp := (par_lt hf hb hc.1).1
          obtain ⟨h3, h4⟩ := (ih b j (by omega) hb).1 hj
          exact ⟨h3, (und_split hf h2 h3).2 (.inr ⟨b, hb, hc.1, hc.2, h4⟩)⟩
        · simp at hj
    · rintro ⟨h3, h4⟩
      rcases (und_split hf h2 h3).1 h4 with h | ⟨b, hb, h0, hp, h5⟩
      · exact .inl h
      · refine .inr ⟨b, List.mem_range.2 hb, ?_⟩
        rw [if_pos ⟨h0, hp⟩]
        have := (par_lt hf hb h0).1
        exact (ih b j (by omega) hb).2 ⟨h3, h5⟩
/-- An entry of the map. -/
def keyE (q : Nat × Nat) : AV := .agg [.int .i64 (q.1 : Nat), .int .i64 (q.2 : Nat)]
def ent (q : Nat × Nat) : AV := .agg [keyE q, .bool true]
theorem key_inj {q q' : Nat × Nat} (h : keyE q = keyE q') : q = q' := by
  obtain ⟨a, b⟩ := q
  obtain ⟨c, d⟩ := q'
  simp only [keyE, AV.agg.injEq, List.cons.injEq, AV.int.injEq, true_and, and_true] at h
  have h1 : a = c := by omega
  have h2 : b = d := by omega
  rw [h1, h2]
def GoodL (L : List (Nat × Nat)) : Prop := L.Nodup ∧ ∀ q ∈ L, q.1 ≤ 1000000 ∧ q.2 ≤ 1000000
def putL (L : List (Nat × Nat)) (q : Nat × Nat) : List (Nat × Nat) := if L.contains q then L else L ++ [q]
theorem put_good {L : List (Nat × Nat)} {q : Nat × Nat} (h : GoodL L) (hq : q.1 ≤ 1000000 ∧ q.2 ≤ 1000000) : GoodL (putL L q) := by
  unfold putL
  split
  · exact h
  · rename_i hc
    have hc : q ∉ L := by simpa using hc
    refine ⟨List.nodup_append.2 ⟨h.1, by simp, fun a ha b hb => ?_⟩, fun a ha => ?_⟩
    · rw [List.mem_singleton] at hb
      rintro rfl
      exact hc (hb ▸ ha)
    · rcases List.mem_append.1 ha with ha | ha
      · exact h.2 a ha
      · rw [List.mem_singleton] at ha; rw [ha]; exact hq
theorem put_mem {L : List (Nat × Nat)} {q a : Nat × Nat} : a ∈ putL L q ↔ a ∈ L ∨ a = q := by
  unfold putL
  split
  · rename_i hc
    have hc : q ∈ L := by simpa using hc
    exact ⟨.inl, fun h => h.elim id fun h => h ▸ hc⟩
  · simp
def putAll (p : Nat) (L : List (Nat × Nat)) (l : List Nat) : List (Nat × Nat) := l.foldl (fun L j => putL L (j, p)) L
theorem putAll_mem {p : Nat} : ∀ {l : List Nat} {L : List (Nat × Nat)} {a : Nat × Nat}, a ∈ putAll p L l ↔ a ∈ L ∨ (a.2 = p ∧ a.1 ∈ l) := by
  intro l
  induction l with
  | nil => intro L a; simp [putAll]
  | cons x r ih =>
    intro L a
    show a ∈ putAll p (putL L (x, p)) r ↔ _
    rw [ih, put_mem]
    obtain ⟨u, v⟩ := a
    simp only [Prod.mk.injEq, List.mem_cons]
    constructor
    · rintro ((h | ⟨h1, h2⟩) | ⟨h1, h2⟩)
      · exact .inl h
      · exact .inr ⟨h2, .inl h1⟩
      · exact .inr ⟨h1, .inr h2⟩
    · rintro (h | ⟨h1, h2 | h2⟩)
      · exact .inl (.inl h)
      · exact .inl (.inr ⟨h2, h1⟩)
      · exact .inr ⟨h1, h2⟩
theorem putAll_good {p : Nat} (hp : p ≤ 1000000) : ∀ {l : List Nat} {L : List (Nat × Nat)}, GoodL L → (∀ j ∈ l, j ≤ 1000000) → GoodL (putAll p L l) := by
  intro l
  induction l with
  | nil => intro L h _; exact h
  | cons x r ih =>
    intro L h hl
    exact ih (put_good h ⟨hl x (by simp), hp⟩) fun j hj => hl j (by simp [hj])
theorem putAll_app {p : Nat} {L : List (Nat × Nat)} {l l' : List Nat} : putAll p L (l ++ l') = putAll p (putAll p L l) l' := List.foldl_append
-- the keys
theorem keyV73 (c : Value) : KeyV Try.prog 73 c = (Try.prog.keyTypeAt 2 73 = true ∧ Try.prog.tiled 2 73 = true ∧ ∃ l, keyOf Try.prog 73 c = some l) := by kernel_rfl
theorem und73 : Try.prog.underlying 73 = some (.struct #[{ name := "Node", type := 3, offset := 0, embedded := false, tag := "", pkgPath := "", byteOffset := 0 }, { name := "Phase", type := 3, offset := 1, embedded := false, tag := "", pkgPath := "", byteOffset := 8 }]) := by kernel_rfl
theorem und3 : Try.prog.underlying 3 = some (.int .i64) := by kernel_rfl
theorem cells73 : Try.prog.cellsOf 73 = 2 := by kernel_rfl
theorem cells3 : Try.prog.cellsOf 3 = 1 := by kernel_rfl
theorem keyT73 : Try.prog.keyType 73 = true := by kernel_rfl
theorem lits3 {d : Nat} {n : Nat} (h : n ≤ 1000000) : Try.prog.keyLits (d + 1) 3 [.int .i64 n] = some [.int .i64 n] := by
  have hw : (Lit.int .i64 n).wf = true := by simp [Lit.wf, IntKind.min, IntKind.max, IntKind.signed, IntKind.bits]; omega
  simp only [Program.keyLits, und3, hw, and_self, if_true]
theorem lits73 {d a b : Nat} (ha : a ≤ 1000000) (hb : b ≤ 1000000) : Try.prog.keyLits (d + 2) 73 [.int .i64 a, .int .i64 b] = some [.int .i64 a, .int .i64 b] := by
  unfold Program.keyLits
  simp only [und73, cells73]
  simp [cells3, lits3 ha, lits3 hb]
theorem key73 {a b : Nat} (ha : a ≤ 1000000) (hb : b ≤ 1000000) : ∃ l, keyOf Try.prog 73 (.agg #[.int .i64 a, .int .i64 b]) = some l := by
  obtain ⟨m, hm⟩ : ∃ m, Try.prog.types.size = m + 1 := by
    have : 0 < Try.prog.types.size := of_decide_eq_true (by kernel_rfl)
    exact ⟨Try.prog.types.size - 1, by omega⟩
  refine ⟨.string (keyBytes [.int .i64 a, .int .i64 b]), ?_⟩
  unfold keyOf
  rw [und73]
  simp only [keyT73, Value.formed, und73, cells73, Bool.true_and]
  rw [if_pos (by rfl), hm]
  show (Try.prog.keyLits (m + 2) 73 [.int .i64 a, .int .i64 b]).map _ = _
  rw [lits73 ha hb]; rfl
theorem key_is {q : Nat × Nat} (h : q.1 ≤ 1000000 ∧ q.2 ≤ 1000000) : KeyIs Try.prog 73 (keyE q) := by
  refine ⟨.agg #[.int .i64 q.1, .int .i64 q.2], rfl, ?_⟩
  rw [keyV73]
  exact ⟨by kernel_rfl, by kernel_rfl, key73 h.1 h.2⟩
theorem keys_ok {L : List (Nat × Nat)} (h : GoodL L) : KeysOK Try.prog 73 (L.map ent) := by
  intro x hx
  obtain ⟨q, hq, rfl⟩ := List.mem_map.1 hx
  exact ⟨_, _, rfl, key_is (h.2 q hq)⟩
theorem ent_at {L : List (Nat × Nat)} {q : Nat × Nat} {j : Nat} {v : AV} (h : (L.map ent)[j]? = some (.agg [keyE q, v])) : L[j]? = some q ∧ v = .bool true := by
  rw [List.getElem?_map] at h
  obtain ⟨q', h1, h2⟩ := Option.map_eq_some_iff.1 h
  simp only [ent, AV.agg.injEq, List.cons.injEq, and_true] at h2
  rw [h1, key_inj h2.1]
  exact ⟨rfl, h2.2.symm⟩
theorem ent_mem {L : List (Nat × Nat)} {q : Nat × Nat} {v : AV} (h : AV.agg [keyE q, v] ∈ L.map ent) : q ∈ L := by
  obtain ⟨j, hj⟩ := List.mem_iff_getElem?.1 h
  exact List.mem_of_getElem? (ent_at hj).1
theorem mput {L : List (Nat × Nat)} (h : GoodL L) (q : Nat × Nat) : MapPut (L.map ent) (keyE q) (.bool true) ((putL L q).map ent) := by
  unfold putL
  split
  · rename_i hc
    have hc : q ∈ L := by simpa using hc
    obtain ⟨i, hi⟩ := List.mem_iff_getElem?.1 hc
    have hl : i < L.length := (List.getElem?_eq_some_iff.1 hi).1
    refine .inl ⟨i, .bool true, by rw [List.getElem?_map, hi]; rfl, fun j v' hj => ?_, ?_⟩
    · exact ((List.getElem?_inj hl h.1).1 (by rw [hi, (ent_at hj).1])).symm
    · apply List.ext_getElem?
      intro k
      rw [List.getElem?_set]
      split
      · rename_i hk; subst hk; rw [List.getElem?_map, hi, if_pos (by rw [List.length_map]; exact hl)]; rfl
      · rfl
  · rename_i hc
    have hc : q ∉ L := by simpa using hc
    exact .inr ⟨fun v' hm => hc (ent_mem hm), by rw [List.map_append]; rfl⟩
theorem mget {L : List (Nat × Nat)} (h : GoodL L) (q : Nat × Nat) : MapGet (.bool false) (L.map ent) (keyE q) (L.contains q) (.bool (L.contains q)) := by
  cases hc : L.contains q with
  | true =>
    have hc : q ∈ L := by simpa using hc
    obtain ⟨i, hi⟩ := List.mem_iff_getElem?.1 hc
    have hl : i < L.length := (List.getElem?_eq_some_iff.1 hi).1
    exact ⟨i, by rw [List.getElem?_map, hi]; rfl, fun j v' hj => ((List.getElem?_inj hl h.1).1 (by rw [hi, (ent_at hj).1])).symm⟩
  | false =>
    have hc : q ∉ L := by simpa using hc
    exact ⟨fun v' hm => hc (ent_mem hm), rfl⟩
def memM (L : List (Nat × Nat)) : List AV := [.iface 1000000 (.slc 3 (L.map ent))]
def R87 (i : Int) (node : Int) (ph : Int) (M : List AV) (_S : SpecF) (_Fr : FuncId → List AV → Nat → List AV → Prop) (_Sq : FuncId → List AV → List (List AV) → List (List AV) → Prop) (Q : AV → List (List AV) → Prop) : Prop :=
  KeysOK Try.prog (73 : Nat) M ∧ KeyIs Try.prog (73 : Nat) (AV.agg [AV.int .i64 i, AV.int .i64 ph]) ∧ ∃ es'2, MapPut M (AV.agg [AV.int .i64 i, AV.int .i64 ph]) (AV.bool true) es'2 ∧ Q (AV.tup []) [[AV.map (1 : Nat)], [AV.iface (1000000 : Nat) (AV.slc (3 : Nat) es'2)], [AV.int .i64 node, AV.int .i64 ph]]
theorem r87 (i : Int) (node : Int) (ph : Int) (M : List AV) (S : SpecF) (Fr : FuncId → List AV → Nat → List AV → Prop) (Sq : FuncId → List AV → List (List AV) → List (List AV) → Prop) (Q : AV → List (List AV) → Prop) : awpF Try.prog (mkS Try.prog S Fr Sq ⟨[], [], [], [], []⟩ 0) 3 ⟨[0, 1, 2], [], [], []⟩ Try.f87 [.int .i64 i, .ref 0 0, .ref 2 0] [⟨126, false, [.map 1]⟩, ⟨126, false, [.iface 1000000 (.slc 3 M)]⟩, ⟨73, false, [.int .i64 node, .int .i64 ph]⟩] Q = R87 i node ph M S Fr Sq Q := by kernel_rfl
theorem s87 (i : Int) (node : Int) (ph : Int) (M : List AV) (v : AV) (O : List (List AV)) (h : R87 i node ph M (SpecOf Try.prog) (FreshOf Try.prog) (SeqOf Try.prog) (fun r O' => r = v ∧ O' = O)) : SpecOf Try.prog 87 [.int .i64 i, .ref 0 0, .ref 2 0] [[.map 1], [.iface 1000000 (.slc 3 M)], [.int .i64 node, .int .i64 ph]] v O :=
  spec_by (boxes := [⟨126, false, [.map 1]⟩, ⟨126, false, [.iface 1000000 (.slc 3 M)]⟩, ⟨73, false, [.int .i64 node, .int .i64 ph]⟩]) mixed (by exact trivial) Try.func87 Try.call87 rfl rfl rfl (Nat.le_of_ble_eq_true rfl) (r87 i node ph M (SpecOf Try.prog) (FreshOf Try.prog) (SeqOf Try.prog) _) h
theorem c87 {L : List (Nat × Nat)} (h : GoodL L) (i p : Nat) (hi : i ≤ 1000000) (hp : p ≤ 1000000) (node : Int) : Sp 87 [.int .i64 i, .ref 0 0, .ref 2 0] [[.map 1], memM L, [.int .i64 node, .int .i64 p]] (.tup []) [[.map 1], memM (putL L (i, p)), [.int .i64 node, .int .i64 p]] :=
  s87 i node p (L.map ent) _ _ ⟨keys_ok h, key_is (q := (i, p)) ⟨hi, hp⟩, _, mput h (i, p), rfl, rfl⟩
def bxsM (f : TFeFeeder) (node : Int) (p : Nat) (L : List (Nat × Nat)) : List (List AV) := [[.fn 87 [] [.ref 1 0, .ref 3 0]], [.map 2], memM L, [.int .i64 node, .int .i64 p], f.cs, [.fn 116 [] [.ref 0 0, .ref 4 0, .ref 5 0]]]
def R116m (i : Int) (f : TFeFeeder) (node : Int) (ph : Int) (M : List AV) (S : SpecF) (_Fr : FuncId → List AV → Nat → List AV → Prop) (_Sq : FuncId → List AV → List (List AV) → List (List AV) → Prop) (Q : AV → List (List AV) → Prop) : Prop :=
  ∃ es0 n1 n2, S (87 : FuncId) [AV.int .i64 i, AV.ref (0 : Nat) (0 : Nat), AV.ref (2 : Nat) (0 : Nat)] [[AV.map (1 : Nat)], [AV.iface (1000000 : Nat) (AV.slc (3 : Nat) M)], [AV.int .i64 node, AV.int .i64 ph]] (AV.tup []) [[AV.map (1 : Nat)], [AV.iface (1000000 : Nat) (AV.slc (3 : Nat) es0)], [AV.int .i64 n1, AV.int .i64 n2]] ∧ ∃ (I4 : Nat → List AV → Prop), (∃ m6, I4 m6 [AV.int .i64 (0 : Int), AV.agg [AV.iface (1000000 : Nat) (AV.slc (3 : Nat) es0)]]) ∧ ∀ (m6 : Nat) (n7 : Int) (es8 : List AV), I4 m6 [AV.int .i64 n7, AV.agg [AV.iface (1000000 : Nat) (AV.slc (3 : Nat) es8)]] → (decide (n7 < (↑(List.map TFeNode.av f.Nodes).length : Int)) = true → ∃ s12 n13 n14 n15 n16 n17 n18 n19 n20 n21 n22, ((0 : Int) ≤ n7 ∧ (11 : Nat) = (11 : Nat) ∧ (List.map TFeNode.av f.Nodes)[n7.toNat]? = some (AV.agg [AV.str s12, AV.int .i64 n13, AV.int .i64 n14, AV.int .i64 n15, AV.int .i64 n16, AV.int .i64 n17, AV.int .i64 n18, AV.int .i64 n19, AV.int .i64 n20, AV.int .i64 n21, AV.int .i64 n22])) ∧ (decide (n7 > (0 : Int)) = true → ((n13 == i) = true → ∃ es28 n29 n30 es31 es32 es33 n34 n35 n36 n37 n38 n39, S (116 : FuncId) [AV.int .i64 n7, AV.ref (0 : Nat) (0 : Nat), AV.ref (4 : Nat) (0 : Nat), AV.ref (5 : Nat) (0 : Nat)] [[AV.fn (87 : FuncId) [] [AV.ref (1 : Nat) (0 : Nat), AV.ref (3 : Nat) (0 : Nat)]], [AV.map (2 : Nat)], [AV.iface (1000000 : Nat) (AV.slc (3 : Nat) es8)], [AV.int .i64 n1, AV.int .i64 n2], f.cs, [AV.fn (116 : FuncId) [] [AV.ref (0 : Nat) (0 : Nat), AV.ref (4 : Nat) (0 : Nat), AV.ref (5 : Nat) (0 : Nat)]]] (AV.tup []) [[AV.fn (87 : FuncId) [] [AV.ref (1 : Nat) (0 : Nat), AV.ref (3 : Nat) (0 : Nat)]], [AV.map (2 : Nat)], [AV.iface (1000000 : Nat) (AV.slc (3 : Nat) es28)], [AV.int .i64 n29, AV.int .i64 n30], [AV.slc (3 : Nat) es31, AV.slc (3 : Nat) es32, AV.slc (3 : Nat) es33, AV.int .i64 n34, AV.int .i64 n35, AV.int .i64 n36, AV.int .i64 n37, AV.int .i64 n38, AV.int .i64 n39], [AV.fn (116 : FuncId) [] [AV.ref (0 : Nat) (0 : Nat), AV.ref (4 : Nat) (0 : Nat), AV.ref (5 : Nat) (0 : Nat)]]] ∧ [AV.fn (87 : FuncId) [] [AV.ref (1 : Nat) (0 : Nat), AV.ref (3 : Nat) (0 : Nat)]] = [AV.fn (87 : FuncId) [] [AV.ref (1 : Nat) (0 : Nat), AV.ref (3 : Nat) (0 : Nat)]] ∧ [AV.map (2 : Nat)] = [AV.map (2 : Nat)] ∧ [AV.int .i64 n29, AV.int .i64 n30] = [AV.int .i64 n1, AV.int .i64 n2] ∧ [AV.slc (3 : Nat) es31, AV.slc (3 : Nat) es32, AV.slc (3 : Nat) es33, AV.int .i64 n34, AV.int .i64 n35, AV.int .i64 n36, AV.int .i64 n37, AV.int .i64 n38, AV.int .i64 n39] = f.cs ∧ [AV.fn (116 : FuncId) [] [AV.ref (0 : Nat) (0 : Nat), AV.ref (4 : Nat) (0 : Nat), AV.ref (5 : Nat) (0 : Nat)]] = [AV.fn (116 : FuncId) [] [AV.ref (0 : Nat) (0 : Nat), AV.ref (4 : Nat) (0 : Nat), AV.ref (5 : Nat) (0 : Nat)]] ∧ ∃ k46, k46 < m6 ∧ I4 k46 [AV.int .i64 (IntKind.i64.wrap (n7 + (1 : Int))), AV.agg [AV.iface (1000000 : Nat) (AV.slc (3 : Nat) es28)]]) ∧ ((n13 == i) = false → [AV.fn (87 : FuncId) [] [AV.ref (1 : Nat) (0 : Nat), AV.ref (3 : Nat) (0 : Nat)]] = [AV.fn (87 : FuncId) [] [AV.ref (1 : Nat) (0 : Nat), AV.ref (3 : Nat) (0 : Nat)]] ∧ [AV.map (2 : Nat)] = [AV.map (2 : Nat)] ∧ [AV.int .i64 n1, AV.int .i64 n2] = [AV.int .i64 n1, AV.int .i64 n2] ∧ f.cs = f.cs ∧ [AV.fn (116 : FuncId) [] [AV.ref (0 : Nat) (0 : Nat), AV.ref (4 : Nat) (0 : Nat), AV.ref (5 : Nat) (0 : Nat)]] = [AV.fn (116 : FuncId) [] [AV.ref (0 : Nat) (0 : Nat), AV.ref (4 : Nat) (0 : Nat), AV.ref (5 : Nat) (0 : Nat)]] ∧ ∃ k33, k33 < m6 ∧ I4 k33 [AV.int .i64 (IntKind.i64.wrap (n7 + (1 : Int))), AV.agg [AV.iface (1000000 : Nat) (AV.slc (3 : Nat) es8)]])) ∧ (decide (n7 > (0 : Int)) = false → [AV.fn (87 : FuncId) [] [AV.ref (1 : Nat) (0 : Nat), AV.ref (3 : Nat) (0 : Nat)]] = [AV.fn (87 : FuncId) [] [AV.ref (1 : Nat) (0 : Nat), AV.ref (3 : Nat) (0 : Nat)]] ∧ [AV.map (2 : Nat)] = [AV.map (2 : Nat)] ∧ [AV.int .i64 n1, AV.int .i64 n2] = [AV.int .i64 n1, AV.int .i64 n2] ∧ f.cs = f.cs ∧ [AV.fn (116 : FuncId) [] [AV.ref (0 : Nat) (0 : Nat), AV.ref (4 : Nat) (0 : Nat), AV.ref (5 : Nat) (0 : Nat)]] = [AV.fn (116 : FuncId) [] [AV.ref (0 : Nat) (0 : Nat), AV.ref (4 : Nat) (0 : Nat), AV.ref (5 : Nat) (0 : Nat)]] ∧ ∃ k31, k31 < m6 ∧ I4 k31 [AV.int .i64 (IntKind.i64.wrap (n7 + (1 : Int))), AV.agg [AV.iface (1000000 : Nat) (AV.slc (3 : Nat) es8)]])) ∧ (decide (n7 < (↑(List.map TFeNode.av f.Nodes).length : Int)) = false → Q (AV.tup []) [[AV.fn (87 : FuncId) [] [AV.ref (1 : Nat) (0 : Nat), AV.ref (3 : Nat) (0 : Nat)]], [AV.map (2 : Nat)], [AV.iface (1000000 : Nat) (AV.slc (3 : Nat) es8)], [AV.int .i64 n1, AV.int .i64 n2], f.cs, [AV.fn (116 : FuncId) [] [AV.ref (0 : Nat) (0 : Nat), AV.ref (4 : Nat) (0 : Nat), AV.ref (5 : Nat) (0 : Nat)]]])
theorem r116m (i : Int) (f : TFeFeeder) (node : Int) (ph : Int) (M : List AV) (S : SpecF) (Fr : FuncId → List AV → Nat → List AV → Prop) (Sq : FuncId → List AV → List (List AV) → List (List AV) → Prop) (Q : AV → List (List AV) → Prop) : awpF Try.prog (mkS Try.prog S Fr Sq ⟨[], [], [], [], []⟩ 0) 6 ⟨[0, 1, 2, 3, 5, 6, 11, 12, 13, 14, 25], [⟨2, [(13, .int .i64 0)], [], [(1000002, .agg [.iface 1000000 (.slc 3 [])])], [], []⟩], [], []⟩ Try.f116 [.int .i64 i, .ref 0 0, .ref 4 0, .ref 5 0] [⟨107, false, [.fn 87 [] [.ref 1 0, .ref 3 0]]⟩, ⟨126, false, [.map 2]⟩, ⟨126, false, [.iface 1000000 (.slc 3 M)]⟩, ⟨73, false, [.int .i64 node, .int .i64 ph]⟩, ⟨28, false, f.cs⟩, ⟨107, false, [.fn 116 [] [.ref 0 0, .ref 4 0, .ref 5 0]]⟩] Q = R116m i f node ph M S Fr Sq Q := by kernel_rfl
theorem s116m (i : Int) (f : TFeFeeder) (node : Int) (ph : Int) (M : List AV) (v : AV) (O : List (List AV)) (h : R116m i f node ph M (SpecOf Try.prog) (FreshOf Try.prog) (SeqOf Try.prog) (fun r O' => r = v ∧ O' = O)) : SpecOf Try.prog 116 [.int .i64 i, .ref 0 0, .ref 4 0, .ref 5 0] [[.fn 87 [] [.ref 1 0, .ref 3 0]], [.map 2], [.iface 1000000 (.slc 3 M)], [.int .i64 node, .int .i64 ph], f.cs, [.fn 116 [] [.ref 0 0, .ref 4 0, .ref 5 0]]] v O :=
  spec_by (boxes := [⟨107, false, [.fn 87 [] [.ref 1 0, .ref 3 0]]⟩, ⟨126, false, [.map 2]⟩, ⟨126, false, [.iface 1000000 (.slc 3 M)]⟩, ⟨73, false, [.int .i64 node, .int .i64 ph]⟩, ⟨28, false, f.cs⟩, ⟨107, false, [.fn 116 [] [.ref 0 0, .ref 4 0, .ref 5 0]]⟩]) mixed (by exact trivial) Try.func116 Try.call116 rfl rfl rfl (Nat.le_of_ble_eq_true rfl) (r116m i f node ph M (SpecOf Try.prog) (FreshOf Try.prog) (SeqOf Try.prog) _) h
theorem c116m {f : TFeFeeder} (hf : OK f) (node : Int) (p : Nat) (hp : p ≤ 1000000) : ∀ (d i : Nat), f.Nodes.length - i ≤ d → i < f.Nodes.length → ∀ L, GoodL L → Sp 116 [.int .i64 i, .ref 0 0, .ref 4 0, .ref 5 0] (bxsM f node p L) (.tup []) (bxsM f node p (putAll p L (visF f d i))) := by
  have hnn := hf.nn
  intro d
  induction d with
  | zero => intro i h1 h2; omega
  | succ d ih =>
    intro i h1 h2 L hL
    refine s116m i f node p (L.map ent) _ _ ?_
    unfold R116m
    refine ⟨_, _, _, c87 hL i p (by omega) hp node, ?_⟩
    have hvis : ∀ k, k ≤ f.Nodes.length → ∀ j ∈ (i :: (List.range k).flatMap fun b => if b ≠ 0 ∧ par f b = i then visF f d b else []), j ≤ 1000000 := by
      intro k hk j hj
      rcases List.mem_cons.1 hj with rfl | hj
      · omega
      · obtain ⟨b, hb, hj⟩ := List.mem_flatMap.1 hj
        have hb := List.mem_range.1 hb
        split at hj
        · rename_i hc
          have hpl := (par_lt hf (i := b) (by omega) hc.1).1
          have := ((vis_mem hf d b j (by omega) (by omega)).1 hj).1
          omega
        · simp at hj
    refine ⟨fun m vs => ∃ k : Nat, k ≤ f.Nodes.length ∧ m = f.Nodes.length - k ∧ vs = [.int .i64 k, .agg (memM (putAll p L (i :: (List.range k).flatMap fun b => if b ≠ 0 ∧ par f b = i then visF f d b else [])))], ⟨_, 0, by omega, rfl, rfl⟩, ?_⟩
    rintro m n es ⟨k, hk, rfl, hv⟩
    have hv' := hv
    simp only [memM, List.cons.injEq, AV.int.injEq, true_and, AV.agg.injEq, AV.iface.injEq, AV.slc.injEq, and_true] at hv'
    obtain ⟨rfl, rfl⟩ := hv'
    simp only [List.length_map]
    have hG := putAll_good hp hL (hvis k hk)
    refine ⟨fun h3 => ?_, fun h3 => ?_⟩
    · have h3 : k < f.Nodes.length := by simpa using h3
      have hw : IntKind.i64.wrap ((k : Int) + 1) = ((k + 1 : Nat) : Int) := wrapN (by omega)
      have hr : (List.range (k + 1)).flatMap (fun b => if b ≠ 0 ∧ par f b = i then visF f d b else []) = (List.range k).flatMap (fun b => if b ≠ 0 ∧ par f b = i then visF f d b else []) ++ (if k ≠ 0 ∧ par f k = i then visF f d k else []) := by
        rw [List.range_succ, List.flatMap_append]; simp
      have next : ∀ L', L' = putAll p L (i :: (List.range (k + 1)).flatMap fun b => if b ≠ 0 ∧ par f b = i then visF f d b else []) → ∃ m', m' < f.Nodes.length - k ∧ ∃ j : Nat, j ≤ f.Nodes.length ∧ m' = f.Nodes.length - j ∧ [AV.int .i64 (IntKind.i64.wrap ((k : Int) + 1)), .agg (memM L')] = [.int .i64 j, .agg (memM (putAll p L (i :: (List.range j).flatMap fun b => if b ≠ 0 ∧ par f b = i then visF f d b else [])))] := by
        rintro _ rfl
        exact ⟨_, (by omega : f.Nodes.length - (k + 1) < f.Nodes.length - k), k + 1, by omega, rfl, by rw [hw]⟩
      have skip : ¬ (k ≠ 0 ∧ par f k = i) → putAll p L (i :: (List.range k).flatMap fun b => if b ≠ 0 ∧ par f b = i then visF f d b else []) = putAll p L (i :: (List.range (k + 1)).flatMap fun b => if b ≠ 0 ∧ par f b = i then visF f d b else []) := fun h => by
        rw [hr, if_neg h, List.append_nil]
      refine ⟨(nd f k).Name, (nd f k).Parent, (nd f k).Cable, (nd f k).Length, (nd f k).Fuse, (nd f k).Loads0.Lo, (nd f k).Loads0.Hi, (nd f k).Loads1.Lo, (nd f k).Loads1.Hi, (nd f k).Loads2.Lo, (nd f k).Loads2.Hi, ⟨by omega, trivial, nd_av h3⟩, fun h4 => ⟨fun h5 => ?_, fun h5 => ⟨trivial, trivial, trivial, trivial, trivial, next _ (skip ?_)⟩⟩, fun h4 => ⟨trivial, trivial, trivial, trivial, trivial, next _ (skip ?_)⟩⟩
      · have hk0 : k ≠ 0 := by simp at h4; omega
        have hpp := par_lt hf h3 hk0
        have hpi : par f k = i := by simp at h5; omega
        refine ⟨_, _, _, List.map TFeCable.av f.Cables, List.map TFeFuse.av f.Fuses, List.map TFeNode.av f.Nodes, f.Volts.Lo, f.Volts.Hi, f.Source.Lo, f.Source.Hi, f.Drop, f.Limit, ih k (by omega) h3 _ hG, trivial, trivial, rfl, rfl, trivial, next _ ?_⟩
        rw [hr, if_pos ⟨hk0, hpi⟩, ← List.cons_append, putAll_app]
      · rintro ⟨hk0, hpi⟩
        have hpp := par_lt hf h3 hk0
        simp at h5; omega
      · rintro ⟨hk0, _⟩
        simp at h4; omega
    · have : k = f.Nodes.length := by simp at h3; omega
      subst this
      exact ⟨trivial, rfl⟩
end Go.Proofs.Ytbdbnpnichkcjaa
namespace Go.Proofs.Ytbdbnpnichkcjaa
open Go.RowKit
/-- There is no such phase. -/
def badO (f : TFeFeeder) (x : TFeOpen) : Bool := !inB x.Node 0 ((f.Nodes.length : Int) - 1) || !inB x.Phase 0 2
def firstB (f : TFeFeeder) : Nat → List TFeOpen → Int
  | _, [] => -1
  | k, x :: r => if badO f x then (k : Int) else firstB f (k + 1) r
theorem firstB_pos {f : TFeFeeder} : ∀ {l : List TFeOpen} {k : Nat}, 0 ≤ firstB f k l ↔ l.any (badO f) = true := by
  intro l
  induction l with
  | nil => intro k; simp [firstB]
  | cons x r ih =>
    intro k
    have e : firstB f k (x :: r) = if badO f x then (k : Int) else firstB f (k + 1) r := rfl
    rw [e, List.any_cons]
    by_cases hb : badO f x = true
    · rw [if_pos hb, hb]; simp
    · rw [if_neg hb]
      have hb' : badO f x = false := by simpa using hb
      rw [hb', Bool.false_or]; exact ih
theorem firstB_any {f : TFeFeeder} {l : List TFeOpen} {k : Nat} : decide (firstB f k l ≥ 0) = l.any (badO f) := by
  rw [Bool.eq_iff_iff, decide_eq_true_eq]; exact firstB_pos
/-- A phase of a node has no supply. -/
def darkB (f : TFeFeeder) (l : List TFeOpen) (j p : Nat) : Bool := l.any fun x => decide (x.Phase.toNat = p) && undB f x.Node.toNat j
def darkP (f : TFeFeeder) (l : List TFeOpen) (j : Nat) : Nat → List TFeOpen
  | 0 => []
  | q + 1 => darkP f l j q ++ if darkB f l j q then [⟨j, q⟩] else []
def darkN (f : TFeFeeder) (l : List TFeOpen) : Nat → List TFeOpen
  | 0 => []
  | n + 1 => darkN f l n ++ darkP f l n 3
def darkS (f : TFeFeeder) (l : List TFeOpen) : List TFeOpen × Int :=
  if (checkF f).2.2 ≠ 0 then ([], (checkF f).2.2) else if l.length > 120 then ([], 3) else if l.any (badO f) then ([], 4) else (darkN f l f.Nodes.length, 0)
theorem darkP_len {f : TFeFeeder} {l : List TFeOpen} {j : Nat} : ∀ q, (darkP f l j q).length ≤ q := by
  intro q
  induction q with
  | zero => exact Nat.le_refl _
  | succ q ih =>
    simp only [darkP, List.length_append]
    split <;> simp <;> omega
theorem darkN_len {f : TFeFeeder} {l : List TFeOpen} : ∀ n, (darkN f l n).length ≤ 3 * n := by
  intro n
  induction n with
  | zero => exact Nat.le_refl _
  | succ n ih =>
    have := darkP_len (f := f) (l := l) (j := n) 3
    simp only [darkN, List.length_append]; omega
theorem flatO (s : List TFeOpen) : elemsOf 2 (s.map TFeOpen.av) ∧ ((s.map TFeOpen.av).flatMap AV.cells).length = s.length * 2 ∧ ones ((s.map TFeOpen.av).flatMap AV.cells) = true ∧ chunkA 2 s.length ((s.map TFeOpen.av).flatMap AV.cells) = s.map TFeOpen.av :=
  flat_map (f := TFeOpen.av) (g := TFeOpen.cs) (k := 2) (fun _ => rfl) (fun _ => rfl) (fun _ => rfl) s
theorem agg73 : isAggT Try.prog 73 = true := by kernel_rfl
theorem chunksO (s : List TFeOpen) : chunks 2 (isAggT Try.prog 73) (s.map TFeOpen.av).length (List.drop 0 (List.flatMap AV.cells (s.map TFeOpen.av))) = s.map TFeOpen.av := by
  rw [agg73]; simp only [chunks, if_true, List.drop_zero, List.length_map]; exact (flatO s).2.2.2
theorem appO_ok {L : List TFeOpen} (h : L.length ≤ 1000000) (i o : Int) : elemsOf 2 [.agg [.int .i64 i, .int .i64 o]] ∧ ((List.flatMap AV.cells (L.map TFeOpen.av)).length = (L.map TFeOpen.av).length * 2 ∧
    ((L.map TFeOpen.av).length + 1 + 512) * 81 ≤ 1125899906842624 ∧ ones [.int .i64 i, .int .i64 o] = true ∧ ones (List.flatMap AV.cells (L.map TFeOpen.av)) = true) := by
  refine ⟨fun v hv => ?_, ?_, ?_, rfl, (flatO L).2.2.1⟩
  · rw [List.mem_singleton] at hv; rw [hv]; rfl
  · rw [List.length_map]; exact (flatO L).2.1
  · rw [List.length_map]; omega
theorem appO_next (L : List TFeOpen) (i o : Int) : ((L ++ [(⟨i, o⟩ : TFeOpen)]).map TFeOpen.av).length = (L.map TFeOpen.av).length + 1 ∧
    List.flatMap AV.cells ((L ++ [(⟨i, o⟩ : TFeOpen)]).map TFeOpen.av) = List.flatMap AV.cells (L.map TFeOpen.av) ++ [.int .i64 i, .int .i64 o] := by
  refine ⟨by simp, ?_⟩
  rw [List.map_append, List.flatMap_append]; rfl
theorem wrapL (f : TFeFeeder) (h : f.Nodes.length ≤ 1000000) : IntKind.i64.wrap (((List.map TFeNode.av f.Nodes).length : Int) - 1) = (f.Nodes.length : Int) - 1 := by rw [List.length_map]; exact i64 (by omega)
def R84 (x : TFeOpen) (v0 : TFeFeeder) (S : SpecF) (_Fr : FuncId → List AV → Nat → List AV → Prop) (_Sq : FuncId → List AV → List (List AV) → List (List AV) → Prop) (Q : AV → List (List AV) → Prop) : Prop :=
  ∃ b0, S (43 : Nat) [AV.int .i64 x.Node, AV.int .i64 (0 : Int), AV.int .i64 (IntKind.i64.wrap ((↑(List.map TFeNode.av v0.Nodes).length : Int) - (1 : Int)))] [] (AV.bool b0) [] ∧ ((!b0) = true → Q (AV.bool true) [v0.cs]) ∧ ((!b0) = false → ∃ b4, S (43 : Nat) [AV.int .i64 x.Phase, AV.int .i64 (0 : Int), AV.int .i64 (2 : Int)] [] (AV.bool b4) [] ∧ Q (AV.bool !b4) [v0.cs])
theorem r84 (x : TFeOpen) (v0 : TFeFeeder) (S : SpecF) (Fr : FuncId → List AV → Nat → List AV → Prop) (Sq : FuncId → List AV → List (List AV) → List (List AV) → Prop) (Q : AV → List (List AV) → Prop) : awpF Try.prog (mkS Try.prog S Fr Sq ⟨[], [], [], [], []⟩ 0) 1 ⟨[0, 1, 2, 3], [], [], []⟩ Try.f84 [x.av, .ref 0 0] [⟨28, false, v0.cs⟩] Q = R84 x v0 S Fr Sq Q := by kernel_rfl
theorem s84 (x : TFeOpen) (v0 : TFeFeeder) (v : AV) (O : List (List AV)) (h : R84 x v0 (SpecOf Try.prog) (FreshOf Try.prog) (SeqOf Try.prog) (fun r O' => r = v ∧ O' = O)) : SpecOf Try.prog 84 [x.av, .ref 0 0] [v0.cs] v O :=
  spec_by (boxes := [⟨28, false, v0.cs⟩]) mixed (by exact trivial) Try.func84 Try.call84 rfl rfl rfl (Nat.le_of_ble_eq_true rfl) (r84 x v0 (SpecOf Try.prog) (FreshOf Try.prog) (SeqOf Try.prog) _) h
theorem c84 (x : TFeOpen) (f : TFeFeeder) (h : f.Nodes.length ≤ 1000000) : Sp 84 [x.av, .ref 0 0] [f.cs] (.bool (badO f x)) [f.cs] := s84 x f _ _ (by
  unfold R84
  rw [wrapL f h]
  refine ⟨_, c43 _ _ _, fun g => ⟨?_, rfl⟩, fun g => ⟨_, c43 _ _ _, ?_, rfl⟩⟩
  · rw [badO, g]; rfl
  · rw [badO, g]; rfl)
def R115 (s : List TFeOpen) (f0 : TFeFeeder) (S : SpecF) (_Fr : FuncId → List AV → Nat → List AV → Prop) (_Sq : FuncId → List AV → List (List AV) → List (List AV) → Prop) (Q : AV → List (List AV) → Prop) : Prop :=
  ∃ (I0 : Nat → List AV → Prop), (∃ m2, I0 m2 [AV.int .i64 (0 : Int), f0.av]) ∧ ∀ (m2 : Nat) (n3 : Int) (es4 es5 es6 : List AV) (n7 n8 n9 n10 n11 n12 : Int), I0 m2 [AV.int .i64 n3, AV.agg [AV.slc (3 : Nat) es4, AV.slc (3 : Nat) es5, AV.slc (3 : Nat) es6, AV.int .i64 n7, AV.int .i64 n8, AV.int .i64 n9, AV.int .i64 n10, AV.int .i64 n11, AV.int .i64 n12]] → (decide (n3 < (↑(List.map TFeOpen.av s).length : Int)) = true → ∃ n16 n17, ((0 : Int) ≤ n3 ∧ (2 : Nat) = (2 : Nat) ∧ (List.map TFeOpen.av s)[n3.toNat]? = some (AV.agg [AV.int .i64 n16, AV.int .i64 n17])) ∧ ∃ b19, S (84 : FuncId) [AV.agg [AV.int .i64 n16, AV.int .i64 n17], AV.ref (0 : Nat) (0 : Nat)] [[AV.slc (3 : Nat) es4, AV.slc (3 : Nat) es5, AV.slc (3 : Nat) es6, AV.int .i64 n7, AV.int .i64 n8, AV.int .i64 n9, AV.int .i64 n10, AV.int .i64 n11, AV.int .i64 n12]] (AV.bool b19) [[AV.slc (3 : Nat) es4, AV.slc (3 : Nat) es5, AV.slc (3 : Nat) es6, AV.int .i64 n7, AV.int .i64 n8, AV.int .i64 n9, AV.int .i64 n10, AV.int .i64 n11, AV.int .i64 n12]] ∧ (b19 = true → Q (AV.int .i64 n3) [[AV.slc (3 : Nat) es4, AV.slc (3 : Nat) es5, AV.slc (3 : Nat) es6, AV.int .i64 n7, AV.int .i64 n8, AV.int .i64 n9, AV.int .i64 n10, AV.int .i64 n11, AV.int .i64 n12]]) ∧ (b19 = false → ∃ k23, k23 < m2 ∧ I0 k23 [AV.int .i64 (IntKind.i64.wrap (n3 + (1 : Int))), AV.agg [AV.slc (3 : Nat) es4, AV.slc (3 : Nat) es5, AV.slc (3 : Nat) es6, AV.int .i64 n7, AV.int .i64 n8, AV.int .i64 n9, AV.int .i64 n10, AV.int .i64 n11, AV.int .i64 n12]])) ∧ (decide (n3 < (↑(List.map TFeOpen.av s).length : Int)) = false → Q (AV.int .i64 (-1 : Int)) [[AV.slc (3 : Nat) es4, AV.slc (3 : Nat) es5, AV.slc (3 : Nat) es6, AV.int .i64 n7, AV.int .i64 n8, AV.int .i64 n9, AV.int .i64 n10, AV.int .i64 n11, AV.int .i64 n12]])
theorem r115 (s : List TFeOpen) (f0 : TFeFeeder) (S : SpecF) (Fr : FuncId → List AV → Nat → List AV → Prop) (Sq : FuncId → List AV → List (List AV) → List (List AV) → Prop) (Q : AV → List (List AV) → Prop) : awpF Try.prog (mkS Try.prog S Fr Sq ⟨[], [], [84], [], []⟩ 0) 1 ⟨[0, 1, 4, 5, 7, 8, 9, 16], [⟨2, [(8, .int .i64 0)], [], [(1000000, .agg [.slc 3 [], .slc 3 [], .slc 3 [], .int .i64 0, .int .i64 0, .int .i64 0, .int .i64 0, .int .i64 0, .int .i64 0])], [], []⟩], [], []⟩ Try.f115 [.slc 3 (List.map TFeOpen.av s), .fn 84 [] [.ref 0 0]] [⟨28, false, f0.cs⟩] Q = R115 s f0 S Fr Sq Q := by kernel_rfl
theorem s115 (s : List TFeOpen) (f0 : TFeFeeder) (v : AV) (O : List (List AV)) (h : R115 s f0 (SpecOf Try.prog) (FreshOf Try.prog) (SeqOf Try.prog) (fun r O' => r = v ∧ O' = O)) : SpecOf Try.prog 115 [.slc 3 (List.map TFeOpen.av s), .fn 84 [] [.ref 0 0]] [f0.cs] v O :=
  spec_by (boxes := [⟨28, false, f0.cs⟩]) mixed (by exact trivial) Try.func115 Try.call115 rfl rfl rfl (Nat.le_of_ble_eq_true rfl) (r115 s f0 (SpecOf Try.prog) (FreshOf Try.prog) (SeqOf Try.prog) _) h
theorem c115 (s : List TFeOpen) (hs : s.length ≤ 1000000) (f : TFeFeeder) (h : f.Nodes.length ≤ 1000000) : Sp 115 [.slc 3 (List.map TFeOpen.av s), .fn 84 [] [.ref 0 0]] [f.cs] (.int .i64 (firstB f 0 s)) [f.cs] := s115 s f _ _ (by
  unfold R115
  refine ⟨fun m vs => ∃ k : Nat, k ≤ s.length ∧ m = s.length - k ∧ vs = [.int .i64 k, f.av] ∧ firstB f k (s.drop k) = firstB f 0 s, ⟨_, 0, by omega, rfl, rfl, rfl⟩, ?_⟩
  rintro m n e1 e2 e3 n1 n2 n3 n4 n5 n6 ⟨k, hk, rfl, hv, hf⟩
  cases hv
  simp only [List.length_map]
  refine ⟨fun g => ?_, fun g => ?_⟩
  · have hlt : k < s.length := by simpa using g
    obtain ⟨x, hx, hx'⟩ := map_getN (f := TFeOpen.av) hlt
    have hd : s.drop k = x :: s.drop (k + 1) := by
      rw [List.drop_eq_getElem_cons hlt]
      rw [List.getElem?_eq_getElem hlt] at hx
      rw [Option.some.inj hx]
    rw [hd, firstB] at hf
    refine ⟨x.Node, x.Phase, ⟨by omega, by trivial, hx'⟩, _, c84 x f h, fun g2 => ?_, fun g2 => ?_⟩
    · rw [if_pos g2] at hf
      exact ⟨by rw [hf], rfl⟩
    · rw [if_neg (by rw [g2]; simp)] at hf
      exact ⟨_, (by omega : s.length - (k + 1) < s.length - k), k + 1, by omega, rfl, by rw [wrapN (by omega)]; rfl, hf⟩
  · obtain rfl : k = s.length := by simp at g; omega
    rw [List.drop_length] at hf
    exact ⟨by rw [← hf]; rfl, rfl⟩)
def R85 (s : List TFeOpen) (f0 : TFeFeeder) (S : SpecF) (_Fr : FuncId → List AV → Nat → List AV → Prop) (_Sq : FuncId → List AV → List (List AV) → List (List AV) → Prop) (Q : AV → List (List AV) → Prop) : Prop :=
  ∃ n0, S (115 : Nat) [AV.slc (3 : Nat) (List.map TFeOpen.av s), AV.fn (84 : FuncId) [] [AV.ref (0 : Nat) (0 : Nat)]] [f0.cs] (AV.int .i64 n0) [f0.cs] ∧ Q (AV.bool (decide (n0 ≥ (0 : Int)))) [f0.cs]
theorem r85 (s : List TFeOpen) (f0 : TFeFeeder) (S : SpecF) (Fr : FuncId → List AV → Nat → List AV → Prop) (Sq : FuncId → List AV → List (List AV) → List (List AV) → Prop) (Q : AV → List (List AV) → Prop) : awpF Try.prog (mkS Try.prog S Fr Sq ⟨[], [], [115], [], []⟩ 0) 1 ⟨[0, 1, 4], [], [], []⟩ Try.f85 [.slc 3 (List.map TFeOpen.av s), .fn 84 [] [.ref 0 0]] [⟨28, false, f0.cs⟩] Q = R85 s f0 S Fr Sq Q := by kernel_rfl
theorem s85 (s : List TFeOpen) (f0 : TFeFeeder) (v : AV) (O : List (List AV)) (h : R85 s f0 (SpecOf Try.prog) (FreshOf Try.prog) (SeqOf Try.prog) (fun r O' => r = v ∧ O' = O)) : SpecOf Try.prog 85 [.slc 3 (List.map TFeOpen.av s), .fn 84 [] [.ref 0 0]] [f0.cs] v O :=
  spec_by (boxes := [⟨28, false, f0.cs⟩]) mixed (by exact trivial) Try.func85 Try.call85 rfl rfl rfl (Nat.le_of_ble_eq_true rfl) (r85 s f0 (SpecOf Try.prog) (FreshOf Try.prog) (SeqOf Try.prog) _) h
theorem c85 (s : List TFeOpen) (hs : s.length ≤ 1000000) (f : TFeFeeder) (h : f.Nodes.length ≤ 1000000) : Sp 85 [.slc 3 (List.map TFeOpen.av s), .fn 84 [] [.ref 0 0]] [f.cs] (.bool (s.any (badO f))) [f.cs] := s85 s f _ _ (by
  unfold R85
  refine ⟨_, c115 s hs f h, ?_, rfl⟩
  rw [firstB_any])
/-- What is open, with all behind it. -/
def offL (f : TFeFeeder) (l : List TFeOpen) : List (Nat × Nat) := l.foldl (fun L x => putAll x.Phase.toNat L (visF f f.Nodes.length x.Node.toNat)) []
theorem off_step {f : TFeFeeder} {l : List TFeOpen} {k : Nat} {x : TFeOpen} (h : l[k]? = some x) : offL f (l.take (k + 1)) = putAll x.Phase.toNat (offL f (l.take k)) (visF f f.Nodes.length x.Node.toNat) := by
  unfold offL
  rw [List.take_add_one, h, List.foldl_append]; rfl
theorem good_of {f : TFeFeeder} {x : TFeOpen} (hx : badO f x = false) : 0 ≤ x.Node ∧ x.Node.toNat < f.Nodes.length ∧ 0 ≤ x.Phase ∧ x.Phase ≤ 2 := by
  simp only [badO, inB, Bool.or_eq_false_iff, Bool.not_eq_false', Bool.and_eq_true, decide_eq_true_eq] at hx
  omega
theorem off_mem {f : TFeFeeder} (hf : OK f) : ∀ {l : List TFeOpen}, (∀ x ∈ l, badO f x = false) → ∀ L, GoodL L → GoodL (l.foldl (fun L x => putAll x.Phase.toNat L (visF f f.Nodes.length x.Node.toNat)) L) ∧
    ∀ j p, j < f.Nodes.length → ((j, p) ∈ l.foldl (fun L x => putAll x.Phase.toNat L (visF f f.Nodes.length x.Node.toNat)) L ↔ (j, p) ∈ L ∨ darkB f l j p = true) := by
  intro l
  induction l with
  | nil => intro _ L hL; exact ⟨hL, fun j p _ => by simp [darkB]⟩
  | cons x r ih =>
    intro h L hL
    obtain ⟨h1, h2, h3, h4⟩ := good_of (h x (by simp))
    have hv := fun j => vis_mem hf f.Nodes.length x.Node.toNat j (by omega) h2
    have hG : GoodL (putAll x.Phase.toNat L (visF f f.Nodes.length x.Node.toNat)) := putAll_good (by omega) hL fun j hj => by have := ((hv j).1 hj).1; have := hf.nn; omega
    obtain ⟨g1, g2⟩ := ih (fun y hy => h y (by simp [hy])) _ hG
    refine ⟨g1, fun j p hj => ?_⟩
    rw [List.foldl_cons, g2 j p hj, putAll_mem, hv j]
    simp only [darkB, List.any_cons, Bool.or_eq_true, Bool.and_eq_true, decide_eq_true_eq]
    constructor
    · rintro ((h | ⟨h, h'⟩) | h)
      · exact .inl h
      · exact .inr (.inl ⟨h.symm, h'.2⟩)
      · exact .inr (.inr h)
    · rintro (h | ⟨h, h'⟩ | h)
      · exact .inl (.inl h)
      · exact .inl (.inr ⟨h.symm, hj, h'⟩)
      · exact .inr h
theorem off_good {f : TFeFeeder} (hf : OK f) {l : List TFeOpen} (h : ∀ x ∈ l, badO f x = false) : GoodL (offL f l) := (off_mem hf h [] ⟨.nil, by simp⟩).1
theorem off_has {f : TFeFeeder} (hf : OK f) {l : List TFeOpen} (h : ∀ x ∈ l, badO f x = false) {j p : Nat} (hj : j < f.Nodes.length) : (offL f l).contains (j, p) = darkB f l j p := by
  have := (off_mem hf h [] ⟨.nil, by simp⟩).2 j p hj
  rw [Bool.eq_iff_iff, List.contains_iff_mem]
  unfold offL
  rw [this]
  simp
def R33 (f : TFeFeeder) (open' : List TFeOpen) (S : SpecF) (_Fr : FuncId → List AV → Nat → List AV → Prop) (_Sq : FuncId → List AV → List (List AV) → List (List AV) → Prop) (Q : AV → List (List AV) → Prop) : Prop :=
  ∃ n0 n1 n2, S (15 : Nat) [f.av] [] (AV.tup [AV.int .i64 n0, AV.int .i64 n1, AV.int .i64 n2]) [] ∧ ((n2 != (0 : Int)) = true → Q (AV.tup [AV.slc (3 : Nat) [], AV.int .i64 n2]) []) ∧ ((n2 != (0 : Int)) = false → (decide ((↑(List.map TFeOpen.av open').length : Int) > (120 : Int)) = true → Q (AV.tup [AV.slc (3 : Nat) [], AV.int .i64 (3 : Int)]) []) ∧ (decide ((↑(List.map TFeOpen.av open').length : Int) > (120 : Int)) = false → ∃ b8, S (85 : Nat) [AV.slc (3 : Nat) (List.map TFeOpen.av open'), AV.fn (84 : Nat) [] [AV.ref (0 : Nat) (0 : Nat)]] [f.cs] (AV.bool b8) [f.cs] ∧ (b8 = true → Q (AV.tup [AV.slc (3 : Nat) [], AV.int .i64 (4 : Int)]) []) ∧ (b8 = false → ∃ (I12 : Nat → List AV → Prop), (∃ m14, I12 m14 [AV.int .i64 (0 : Int), AV.agg [AV.iface (1000000 : Nat) (AV.slc (3 : Nat) [])]]) ∧ ∀ (m14 : Nat) (n15 : Int) (es16 : List AV), I12 m14 [AV.int .i64 n15, AV.agg [AV.iface (1000000 : Nat) (AV.slc (3 : Nat) es16)]] → (decide (n15 < (↑(List.map TFeOpen.av open').length : Int)) = true → ∃ n20 n21, ((0 : Int) ≤ n15 ∧ (2 : Nat) = (2 : Nat) ∧ (List.map TFeOpen.av open')[n15.toNat]? = some (AV.agg [AV.int .i64 n20, AV.int .i64 n21])) ∧ ∃ es23 n24 n25 es26 es27 es28 n29 n30 n31 n32 n33 n34, S (116 : Nat) [AV.int .i64 n20, AV.ref (0 : Nat) (0 : Nat), AV.ref (4 : Nat) (0 : Nat), AV.ref (5 : Nat) (0 : Nat)] [[AV.fn (87 : Nat) [] [AV.ref (1 : Nat) (0 : Nat), AV.ref (3 : Nat) (0 : Nat)]], [AV.map (2 : Nat)], [AV.iface (1000000 : Nat) (AV.slc (3 : Nat) es16)], [AV.int .i64 n20, AV.int .i64 n21], f.cs, [AV.fn (116 : Nat) [] [AV.ref (0 : Nat) (0 : Nat), AV.ref (4 : Nat) (0 : Nat), AV.ref (5 : Nat) (0 : Nat)]]] (AV.tup []) [[AV.fn (87 : Nat) [] [AV.ref (1 : Nat) (0 : Nat), AV.ref (3 : Nat) (0 : Nat)]], [AV.map (2 : Nat)], [AV.iface (1000000 : Nat) (AV.slc (3 : Nat) es23)], [AV.int .i64 n24, AV.int .i64 n25], [AV.slc (3 : Nat) es26, AV.slc (3 : Nat) es27, AV.slc (3 : Nat) es28, AV.int .i64 n29, AV.int .i64 n30, AV.int .i64 n31, AV.int .i64 n32, AV.int .i64 n33, AV.int .i64 n34], [AV.fn (116 : Nat) [] [AV.ref (0 : Nat) (0 : Nat), AV.ref (4 : Nat) (0 : Nat), AV.ref (5 : Nat) (0 : Nat)]]] ∧ f.cs = f.cs ∧ [AV.map (36 : Nat)] = [AV.map (36 : Nat)] ∧ ∃ k38, k38 < m14 ∧ I12 k38 [AV.int .i64 (IntKind.i64.wrap (n15 + (1 : Int))), AV.agg [AV.iface (1000000 : Nat) (AV.slc (3 : Nat) es23)]]) ∧ (decide (n15 < (↑(List.map TFeOpen.av open').length : Int)) = false → ∃ (I20 : Nat → List AV → Prop), (∃ m22, I20 m22 [AV.int .i64 (0 : Int), AV.slc (3 : Nat) [], AV.agg [AV.iface (1000000 : Nat) (AV.slc (3 : Nat) es16)]]) ∧ ∀ (m22 : Nat) (n23 : Int) (es24 es25 : List AV), I20 m22 [AV.int .i64 n23, AV.slc (3 : Nat) es24, AV.agg [AV.iface (1000000 : Nat) (AV.slc (3 : Nat) es25)]] → (decide (n23 < (↑(List.map TFeNode.av f.Nodes).length : Int)) = true → ∃ (I29 : Nat → List AV → Prop), (∃ es31, (es31.length = es24.length ∧ List.flatMap AV.cells es31 = List.flatMap AV.cells es24) ∧ ∃ m33, I29 m33 [AV.int .i64 (0 : Int), AV.slc (3 : Nat) es31, AV.agg [AV.iface (1000000 : Nat) (AV.slc (3 : Nat) es25)]]) ∧ ∀ (m31 : Nat) (n32 : Int) (es33 es34 : List AV), I29 m31 [AV.int .i64 n32, AV.slc (3 : Nat) es33, AV.agg [AV.iface (1000000 : Nat) (AV.slc (3 : Nat) es34)]] → (decide (n32 < (3 : Int)) = true → KeysOK Try.prog (73 : Nat) es34 ∧ KeyIs Try.prog (73 : Nat) (AV.agg [AV.int .i64 n23, AV.int .i64 n32]) ∧ ∃ b40 f41, MapGet (AV.bool false) es34 (AV.agg [AV.int .i64 n23, AV.int .i64 n32]) f41 (AV.bool b40) ∧ (b40 = true → elemsOf (2 : Nat) [AV.agg [AV.int .i64 n23, AV.int .i64 n32]] ∧ ((List.flatMap AV.cells es33).length = es33.length * (2 : Nat) ∧ (es33.length + (1 : Nat) + (512 : Nat)) * (81 : Nat) ≤ (1125899906842624 : Nat) ∧ ones [AV.int .i64 n23, AV.int .i64 n32] = true ∧ ones (List.flatMap AV.cells es33) = true) ∧ f.cs = f.cs ∧ [AV.map (36 : Nat)] = [AV.map (36 : Nat)] ∧ ∃ es49, (es49.length = es33.length + (1 : Nat) ∧ List.flatMap AV.cells es49 = List.flatMap AV.cells es33 ++ [AV.int .i64 n23, AV.int .i64 n32]) ∧ ∃ k51, k51 < m31 ∧ I29 k51 [AV.int .i64 (IntKind.i64.wrap (n32 + (1 : Int))), AV.slc (3 : Nat) es49, AV.agg [AV.iface (1000000 : Nat) (AV.slc (3 : Nat) es34)]]) ∧ (b40 = false → f.cs = f.cs ∧ [AV.map (36 : Nat)] = [AV.map (36 : Nat)] ∧ ∃ es47, (es47.length = es33.length ∧ List.flatMap AV.cells es47 = List.flatMap AV.cells es33) ∧ ∃ k49, k49 < m31 ∧ I29 k49 [AV.int .i64 (IntKind.i64.wrap (n32 + (1 : Int))), AV.slc (3 : Nat) es47, AV.agg [AV.iface (1000000 : Nat) (AV.slc (3 : Nat) es34)]])) ∧ (decide (n32 < (3 : Int)) = false → f.cs = f.cs ∧ [AV.map (36 : Nat)] = [AV.map (36 : Nat)] ∧ ∃ es40, (es40.length = es33.length ∧ List.flatMap AV.cells es40 = List.flatMap AV.cells es33) ∧ ∃ k42, k42 < m22 ∧ I20 k42 [AV.int .i64 (IntKind.i64.wrap (n23 + (1 : Int))), AV.slc (3 : Nat) es40, AV.agg [AV.iface (1000000 : Nat) (AV.slc (3 : Nat) es34)]])) ∧ (decide (n23 < (↑(List.map TFeNode.av f.Nodes).length : Int)) = false → (0 : Nat) + es24.length * (2 : Nat) ≤ (List.flatMap AV.cells es24).length ∧ Q (AV.tup [AV.slc (3 : Nat) (chunks (2 : Nat) (isAggT Try.prog (73 : Nat)) es24.length (List.drop (0 : Nat) (List.flatMap AV.cells es24))), AV.int .i64 (0 : Int)]) [])))))
theorem r33 (f : TFeFeeder) (open' : List TFeOpen) (S : SpecF) (Fr : FuncId → List AV → Nat → List AV → Prop) (Sq : FuncId → List AV → List (List AV) → List (List AV) → Prop) (Q : AV → List (List AV) → Prop) : awpF Try.prog (mkS Try.prog S Fr Sq ⟨[], [], [85], [(86, ⟨[0, 1, 2, 3, 5, 6], [], [], []⟩)], []⟩ 4) 0 ⟨[0, 1, 2, 4, 5, 8, 9, 10, 12, 13, 14, 15, 16, 24, 28, 32, 37, 38, 39, 40, 51, 52, 53, 55, 56, 63], [⟨11, [(39, .int .i64 0)], [], [(36, .agg [.iface 1000000 (.slc 3 [])])], [], []⟩, ⟨17, [(52, .int .i64 0)], [(13, 73)], [(36, .agg [.iface 1000000 (.slc 3 [])])], [], []⟩, ⟨20, [(55, .int .i64 0)], [(13, 73)], [(36, .agg [.iface 1000000 (.slc 3 [])])], [], []⟩], [], []⟩ Try.f33 [f.av, .slc 3 (List.map TFeOpen.av open')] [] Q = R33 f open' S Fr Sq Q := by kernel_rfl
theorem s33 (f : TFeFeeder) (open' : List TFeOpen) (v : AV) (O : List (List AV)) (h : R33 f open' (SpecOf Try.prog) (FreshOf Try.prog) (SeqOf Try.prog) (fun r O' => r = v ∧ O' = O)) : SpecOf Try.prog 33 [f.av, .slc 3 (List.map TFeOpen.av open')] [] v O :=
  spec_by (boxes := []) mixed (by exact ⟨Try.call86, trivial⟩) Try.func33 Try.call33 rfl rfl rfl (Nat.le_of_ble_eq_true rfl) (r33 f open' (SpecOf Try.prog) (FreshOf Try.prog) (SeqOf Try.prog) _) h
theorem c33 (f : TFeFeeder) (hn : NOK f) (l : List TFeOpen) : Sp 33 [f.av, .slc 3 (List.map TFeOpen.av l)] [] (.tup [.slc 3 ((darkS f l).1.map TFeOpen.av), .int .i64 (darkS f l).2]) [] := s33 f l _ _ (by
  unfold R33
  refine ⟨_, _, _, c15 f hn, fun h => ⟨?_, by trivial⟩, fun h => ?_⟩
  · have h : (checkF f).2.2 ≠ 0 := by simpa using h
    rw [darkS, if_pos h]; rfl
  have h : (checkF f).2.2 = 0 := by simpa using h
  have hf := ok_of h
  have hnn := hf.nn
  simp only [List.length_map]
  refine ⟨fun g => ⟨?_, by trivial⟩, fun g => ?_⟩
  · have g : l.length > 120 := by simp at g; omega
    rw [darkS, if_neg (by simp [h]), if_pos g]; rfl
  have hl : l.length ≤ 120 := by simp at g; omega
  refine ⟨_, c85 l (by omega) f (by omega), fun g2 => ⟨?_, by trivial⟩, fun g2 => ?_⟩
  · rw [darkS, if_neg (by simp [h]), if_neg (by omega), if_pos g2]; rfl
  have hD : darkS f l = (darkN f l f.Nodes.length, 0) := by rw [darkS, if_neg (by simp [h]), if_neg (by omega), if_neg (by rw [g2]; simp)]
  rw [hD]
  have hall : ∀ x ∈ l, badO f x = false := fun x hx => by
    cases hb : badO f x with
    | false => rfl
    | true => rw [List.any_eq_true.2 ⟨x, hx, hb⟩] at g2; cases g2
  refine ⟨fun m vs => ∃ k : Nat, k ≤ l.length ∧ m = l.length - k ∧ vs = [.int .i64 k, .agg (memM (offL f (l.take k)))], ⟨_, 0, by omega, rfl, rfl⟩, ?_⟩
  rintro m n es ⟨k, hk, rfl, hv⟩
  have hv' := hv
  simp only [memM, List.cons.injEq, AV.int.injEq, true_and, AV.agg.injEq, AV.iface.injEq, AV.slc.injEq, and_true] at hv'
  obtain ⟨rfl, rfl⟩ := hv'
  refine ⟨fun g3 => ?_, fun g3 => ?_⟩
  · have hlt : k < l.length := by simpa using g3
    obtain ⟨x, hx, hx'⟩ := map_getN (f := TFeOpen.av) hlt
    obtain ⟨b1, b2, b3, b4⟩ := good_of (hall x (List.mem_of_getElem? hx))
    have hc := c116m hf x.Node x.Phase.toNat (by omega) f.Nodes.length x.Node.toNat (by omega) b2 _ (off_good hf (l := l.take k) fun y hy => hall y (List.mem_of_mem_take hy))
    have e1 : ((x.Node.toNat : Nat) : Int) = x.Node := by omega
    have e2 : ((x.Phase.toNat : Nat) : Int) = x.Phase := by omega
    unfold bxsM memM at hc
    rw [e1, e2] at hc
    exact ⟨x.Node, x.Phase, ⟨by omega, by trivial, hx'⟩, _, _, _, List.map TFeCable.av f.Cables, List.map TFeFuse.av f.Fuses, List.map TFeNode.av f.Nodes, f.Volts.Lo, f.Volts.Hi, f.Source.Lo, f.Source.Hi, f.Drop, f.Limit, hc, by trivial, by trivial, _, (by omega : l.length - (k + 1) < l.length - k), k + 1, by omega, rfl, by rw [wrapN (by omega), off_step hx]; rfl⟩
  · obtain rfl : k = l.length := by simp at g3; omega
    rw [List.take_length]
    have hG := off_good hf hall
    refine ⟨fun m vs => ∃ i : Nat, i ≤ f.Nodes.length ∧ m = f.Nodes.length - i ∧ vs = [.int .i64 i, .slc 3 ((darkN f l i).map TFeOpen.av), .agg (memM (offL f l))], ⟨_, 0, by omega, rfl, rfl⟩, ?_⟩
    rintro m n es es' ⟨i, hi, rfl, hv⟩
    have hv' := hv
    simp only [memM, List.cons.injEq, AV.int.injEq, true_and, AV.agg.injEq, AV.iface.injEq, AV.slc.injEq, and_true] at hv'
    obtain ⟨rfl, rfl, rfl⟩ := hv'
    refine ⟨fun g4 => ?_, fun g4 => ?_⟩
    · have hilt : i < f.Nodes.length := by simpa using g4
      have hNl := darkN_len (f := f) (l := l) i
      refine ⟨fun m vs => ∃ p : Nat, p ≤ 3 ∧ m = 3 - p ∧ vs = [.int .i64 p, .slc 3 ((darkN f l i ++ darkP f l i p).map TFeOpen.av), .agg (memM (offL f l))], ⟨_, ⟨rfl, rfl⟩, _, 0, by omega, rfl, by rw [darkP, List.append_nil]; rfl⟩, ?_⟩
      rintro m n es es' ⟨p, hp, rfl, hv⟩
      have hv' := hv
      simp only [memM, List.cons.injEq, AV.int.injEq, true_and, AV.agg.injEq, AV.iface.injEq, AV.slc.injEq, and_true] at hv'
      obtain ⟨rfl, rfl, rfl⟩ := hv'
      refine ⟨fun g5 => ?_, fun g5 => ?_⟩
      · have hp3 : p < 3 := by simp at g5; omega
        have hwp : IntKind.i64.wrap ((p : Int) + 1) = ((p + 1 : Nat) : Int) := wrapN (by omega)
        have hget := mget hG (i, p)
        have hPl := darkP_len (f := f) (l := l) (j := i) p
        obtain ⟨a1, a2⟩ := appO_ok (L := darkN f l i ++ darkP f l i p) (by rw [List.length_append]; omega) i p
        refine ⟨keys_ok hG, key_is (q := (i, p)) ⟨by omega, by omega⟩, _, _, hget, fun g6 => ⟨a1, a2, ?_⟩, fun g6 => ?_⟩
        · rw [off_has hf hall hilt] at g6
          repeat first | refine And.intro rfl ?_ | refine And.intro trivial ?_
          exact ⟨_, appO_next _ _ _, _, (by omega : 3 - (p + 1) < 3 - p), p + 1, by omega, rfl, by rw [hwp, darkP, if_pos g6, List.append_assoc]; rfl⟩
        · rw [off_has hf hall hilt] at g6
          repeat first | refine And.intro rfl ?_ | refine And.intro trivial ?_
          exact ⟨_, ⟨rfl, rfl⟩, _, (by omega : 3 - (p + 1) < 3 - p), p + 1, by omega, rfl, by rw [hwp, darkP, if_neg (by rw [g6]; simp), List.append_nil]; rfl⟩
      · obtain rfl : p = 3 := by simp at g5; omega
        repeat first | refine And.intro rfl ?_ | refine And.intro trivial ?_
        exact ⟨_, ⟨rfl, rfl⟩, _, (by omega : f.Nodes.length - (i + 1) < f.Nodes.length - i), i + 1, by omega, rfl, by rw [wrapN (by omega), darkN]; rfl⟩
    · obtain rfl : i = f.Nodes.length := by simp at g4; omega
      refine ⟨?_, ?_, by trivial⟩
      · rw [(flatO _).2.1, List.length_map]; omega
      · rw [chunksO])
end Go.Proofs.Ytbdbnpnichkcjaa
namespace Go.Proofs.Ytbdbnpnichkcjaa
open Go.RowKit
theorem dark_step {f : TFeFeeder} {l : List TFeOpen} {k : Nat} {x : TFeOpen} {j p : Nat} (h : l[k]? = some x) : darkB f (l.take (k + 1)) j p = (darkB f (l.take k) j p || (decide (x.Phase.toNat = p) && undB f x.Node.toNat j)) := by
  unfold darkB
  rw [List.take_add_one, h, List.any_append]
  simp
def R34 (f : TFeFeeder) (open' : List TFeOpen) (S : SpecF) (_Fr : FuncId → List AV → Nat → List AV → Prop) (_Sq : FuncId → List AV → List (List AV) → List (List AV) → Prop) (Q : AV → List (List AV) → Prop) : Prop :=
  ∃ n0 n1 n2, S (16 : Nat) [f.av] [] (AV.tup [AV.int .i64 n0, AV.int .i64 n1, AV.int .i64 n2]) [] ∧ ∃ (J4 : List AV → Prop), (((n2 == (0 : Int)) = true → (decide ((↑(List.map TFeOpen.av open').length : Int) > (120 : Int)) = true → f.cs = f.cs ∧ J4 [AV.int .i64 (3 : Int)]) ∧ (decide ((↑(List.map TFeOpen.av open').length : Int) > (120 : Int)) = false → f.cs = f.cs ∧ J4 [AV.int .i64 n2])) ∧ ((n2 == (0 : Int)) = false → f.cs = f.cs ∧ J4 [AV.int .i64 n2])) ∧ ∀ (n6 : Int), J4 [AV.int .i64 n6] → ∃ (J8 : List AV → Prop), (∃ (I10 : Nat → List AV → Prop), (∃ m12, I10 m12 [AV.int .i64 n6, AV.int .i64 (0 : Int)]) ∧ ∀ (m12 : Nat) (n13 n14 : Int), I10 m12 [AV.int .i64 n13, AV.int .i64 n14] → (decide (n14 < (↑(List.map TFeOpen.av open').length : Int)) = true → ((n13 == (0 : Int)) = true → ∃ n20 n21, ((0 : Int) ≤ n14 ∧ (2 : Nat) = (2 : Nat) ∧ (List.map TFeOpen.av open')[n14.toNat]? = some (AV.agg [AV.int .i64 n20, AV.int .i64 n21])) ∧ ∃ b23, S (55 : Nat) [AV.int .i64 n20, AV.int .i64 (0 : Int), AV.int .i64 (IntKind.i64.wrap ((↑(List.map TFeNode.av f.Nodes).length : Int) - (1 : Int)))] [] (AV.bool b23) [] ∧ ((!b23) = true → f.cs = f.cs ∧ ∃ k28, k28 < m12 ∧ I10 k28 [AV.int .i64 (4 : Int), AV.int .i64 (IntKind.i64.wrap (n14 + (1 : Int)))]) ∧ ((!b23) = false → ∃ n27 n28, ((0 : Int) ≤ n14 ∧ (2 : Nat) = (2 : Nat) ∧ (List.map TFeOpen.av open')[n14.toNat]? = some (AV.agg [AV.int .i64 n27, AV.int .i64 n28])) ∧ ∃ b30, S (55 : Nat) [AV.int .i64 n28, AV.int .i64 (0 : Int), AV.int .i64 (2 : Int)] [] (AV.bool b30) [] ∧ ((!b30) = true → f.cs = f.cs ∧ ∃ k35, k35 < m12 ∧ I10 k35 [AV.int .i64 (4 : Int), AV.int .i64 (IntKind.i64.wrap (n14 + (1 : Int)))]) ∧ ((!b30) = false → f.cs = f.cs ∧ ∃ k35, k35 < m12 ∧ I10 k35 [AV.int .i64 n13, AV.int .i64 (IntKind.i64.wrap (n14 + (1 : Int)))]))) ∧ ((n13 == (0 : Int)) = false → f.cs = f.cs ∧ J8 [AV.int .i64 n13])) ∧ (decide (n14 < (↑(List.map TFeOpen.av open').length : Int)) = false → f.cs = f.cs ∧ J8 [AV.int .i64 n13])) ∧ ∀ (n10 : Int), J8 [AV.int .i64 n10] → ((n10 != (0 : Int)) = true → Q (AV.tup [AV.slc (3 : Nat) [], AV.int .i64 n10]) []) ∧ ((n10 != (0 : Int)) = false → ∃ (I14 : Nat → List AV → Prop), (∃ m16, I14 m16 [AV.int .i64 (0 : Int), AV.slc (3 : Nat) []]) ∧ ∀ (m16 : Nat) (n17 : Int) (es18 : List AV), I14 m16 [AV.int .i64 n17, AV.slc (3 : Nat) es18] → (decide (n17 < (↑(List.map TFeNode.av f.Nodes).length : Int)) = true → ∃ (I22 : Nat → List AV → Prop), (∃ es24, (es24.length = es18.length ∧ List.flatMap AV.cells es24 = List.flatMap AV.cells es18) ∧ ∃ m26, I22 m26 [AV.int .i64 (0 : Int), AV.slc (3 : Nat) es24]) ∧ ∀ (m24 : Nat) (n25 : Int) (es26 : List AV), I22 m24 [AV.int .i64 n25, AV.slc (3 : Nat) es26] → (decide (n25 < (3 : Int)) = true → ∃ (I30 : Nat → List AV → Prop), (∃ m32, I30 m32 [AV.bool false, AV.int .i64 (0 : Int)]) ∧ ∀ (m32 : Nat) (b33 : Bool) (n34 : Int), I30 m32 [AV.bool b33, AV.int .i64 n34] → (decide (n34 < (↑(List.map TFeOpen.av open').length : Int)) = true → (b33 = true → f.cs = f.cs ∧ List.flatMap AV.cells es26 = List.flatMap AV.cells es26 ∧ ∃ k42, k42 < m32 ∧ I30 k42 [AV.bool true, AV.int .i64 (IntKind.i64.wrap (n34 + (1 : Int)))]) ∧ (b33 = false → ∃ n40 n41, ((0 : Int) ≤ n34 ∧ (2 : Nat) = (2 : Nat) ∧ (List.map TFeOpen.av open')[n34.toNat]? = some (AV.agg [AV.int .i64 n40, AV.int .i64 n41])) ∧ ((n41 == n25) = true → ∃ n45 n46, ((0 : Int) ≤ n34 ∧ (2 : Nat) = (2 : Nat) ∧ (List.map TFeOpen.av open')[n34.toNat]? = some (AV.agg [AV.int .i64 n45, AV.int .i64 n46])) ∧ ((n45 == (0 : Int)) = true → f.cs = f.cs ∧ List.flatMap AV.cells es26 = List.flatMap AV.cells es26 ∧ ∃ k52, k52 < m32 ∧ I30 k52 [AV.bool true, AV.int .i64 (IntKind.i64.wrap (n34 + (1 : Int)))]) ∧ ((n45 == (0 : Int)) = false → ∃ n50 n51, ((0 : Int) ≤ n34 ∧ (2 : Nat) = (2 : Nat) ∧ (List.map TFeOpen.av open')[n34.toNat]? = some (AV.agg [AV.int .i64 n50, AV.int .i64 n51])) ∧ ∃ b53, S (88 : Nat) [f.av, AV.int .i64 n50, AV.int .i64 n17] [] (AV.bool b53) [] ∧ f.cs = f.cs ∧ List.flatMap AV.cells es26 = List.flatMap AV.cells es26 ∧ ∃ k57, k57 < m32 ∧ I30 k57 [AV.bool b53, AV.int .i64 (IntKind.i64.wrap (n34 + (1 : Int)))])) ∧ ((n41 == n25) = false → f.cs = f.cs ∧ List.flatMap AV.cells es26 = List.flatMap AV.cells es26 ∧ ∃ k47, k47 < m32 ∧ I30 k47 [AV.bool false, AV.int .i64 (IntKind.i64.wrap (n34 + (1 : Int)))]))) ∧ (decide (n34 < (↑(List.map TFeOpen.av open').length : Int)) = false → (b33 = true → elemsOf (2 : Nat) [AV.agg [AV.int .i64 n17, AV.int .i64 n25]] ∧ ((List.flatMap AV.cells es26).length = es26.length * (2 : Nat) ∧ (es26.length + (1 : Nat) + (512 : Nat)) * (81 : Nat) ≤ (1125899906842624 : Nat) ∧ ones [AV.int .i64 n17, AV.int .i64 n25] = true ∧ ones (List.flatMap AV.cells es26) = true) ∧ f.cs = f.cs ∧ ∃ es43, (es43.length = es26.length + (1 : Nat) ∧ List.flatMap AV.cells es43 = List.flatMap AV.cells es26 ++ [AV.int .i64 n17, AV.int .i64 n25]) ∧ ∃ k45, k45 < m24 ∧ I22 k45 [AV.int .i64 (IntKind.i64.wrap (n25 + (1 : Int))), AV.slc (3 : Nat) es43]) ∧ (b33 = false → f.cs = f.cs ∧ ∃ es41, (es41.length = es26.length ∧ List.flatMap AV.cells es41 = List.flatMap AV.cells es26) ∧ ∃ k43, k43 < m24 ∧ I22 k43 [AV.int .i64 (IntKind.i64.wrap (n25 + (1 : Int))), AV.slc (3 : Nat) es41]))) ∧ (decide (n25 < (3 : Int)) = false → f.cs = f.cs ∧ ∃ es31, (es31.length = es26.length ∧ List.flatMap AV.cells es31 = List.flatMap AV.cells es26) ∧ ∃ k33, k33 < m16 ∧ I14 k33 [AV.int .i64 (IntKind.i64.wrap (n17 + (1 : Int))), AV.slc (3 : Nat) es31])) ∧ (decide (n17 < (↑(List.map TFeNode.av f.Nodes).length : Int)) = false → (0 : Nat) + es18.length * (2 : Nat) ≤ (List.flatMap AV.cells es18).length ∧ Q (AV.tup [AV.slc (3 : Nat) (chunks (2 : Nat) (isAggT Try.prog (73 : Nat)) es18.length (List.drop (0 : Nat) (List.flatMap AV.cells es18))), AV.int .i64 (0 : Int)]) []))
theorem r34 (f : TFeFeeder) (open' : List TFeOpen) (S : SpecF) (Fr : FuncId → List AV → Nat → List AV → Prop) (Sq : FuncId → List AV → List (List AV) → List (List AV) → Prop) (Q : AV → List (List AV) → Prop) : awpF Try.prog (mkS Try.prog S Fr Sq ⟨[], [], [88], [], []⟩ 0) 0 ⟨[0, 1, 2, 4, 5, 8, 9, 10, 11, 12, 13, 14, 27, 35, 57, 59, 65, 69, 75, 106], [⟨5, [(8, .int .i64 0), (9, .int .i64 0)], [], [], [], []⟩, ⟨13, [(11, .int .i64 0)], [(10, 73)], [], [], []⟩, ⟨16, [(12, .int .i64 0)], [(10, 73)], [], [], []⟩, ⟨20, [(13, .bool false), (14, .int .i64 0)], [], [], [], []⟩], [⟨4, [(8, .int .i64 0)], [], [], [], []⟩, ⟨9, [(8, .int .i64 0)], [], [], [], []⟩], []⟩ Try.f34 [f.av, .slc 3 (List.map TFeOpen.av open')] [] Q = R34 f open' S Fr Sq Q := by kernel_rfl
theorem s34 (f : TFeFeeder) (open' : List TFeOpen) (v : AV) (O : List (List AV)) (h : R34 f open' (SpecOf Try.prog) (FreshOf Try.prog) (SeqOf Try.prog) (fun r O' => r = v ∧ O' = O)) : SpecOf Try.prog 34 [f.av, .slc 3 (List.map TFeOpen.av open')] [] v O :=
  spec_by (boxes := []) mixed (by exact trivial) Try.func34 Try.call34 rfl rfl rfl (Nat.le_of_ble_eq_true rfl) (r34 f open' (SpecOf Try.prog) (FreshOf Try.prog) (SeqOf Try.prog) _) h
set_option maxRecDepth 10000 in
theorem c34 (f : TFeFeeder) (hn : NOK f) (l : List TFeOpen) : Sp 34 [f.av, .slc 3 (List.map TFeOpen.av l)] [] (.tup [.slc 3 ((darkS f l).1.map TFeOpen.av), .int .i64 (darkS f l).2]) [] := s34 f l _ _ (by
  unfold R34
  simp only [List.length_map]
  refine ⟨_, _, _, c16 f hn, fun vs => vs = [.int .i64 (if (checkF f).2.2 ≠ 0 then (checkF f).2.2 else if l.length > 120 then 3 else 0)], ⟨fun h => ⟨fun g => ⟨by trivial, ?_⟩, fun g => ⟨by trivial, ?_⟩⟩, fun h => ⟨by trivial, ?_⟩⟩, ?_⟩
  · have h : (checkF f).2.2 = 0 := by simpa using h
    have g : l.length > 120 := by simp at g; omega
    rw [if_neg (by simp [h]), if_pos g]
  · have h : (checkF f).2.2 = 0 := by simpa using h
    have g : ¬ l.length > 120 := by simp at g; omega
    rw [if_neg (by simp [h]), if_neg g, h]
  · have h : (checkF f).2.2 ≠ 0 := by simpa using h
    rw [if_pos h]
  rintro n hn0
  have hn1 : n = (if (checkF f).2.2 ≠ 0 then (checkF f).2.2 else if l.length > 120 then 3 else 0) := by simpa using hn0
  clear hn0
  refine ⟨fun vs => vs = [.int .i64 (darkS f l).2], ?_, ?_⟩
  · by_cases hz : n = 0
    · have h : (checkF f).2.2 = 0 := by
        by_cases h : (checkF f).2.2 = 0
        · exact h
        · rw [if_pos h] at hn1; omega
      have hl : l.length ≤ 120 := by
        rw [if_neg (by simp [h])] at hn1
        by_cases g : l.length > 120
        · rw [if_pos g] at hn1; omega
        · omega
      have hf := ok_of h
      have hnn := hf.nn
      subst hz
      have hD : (darkS f l).2 = if l.any (badO f) then 4 else 0 := by
        rw [darkS, if_neg (by simp [h]), if_neg (by omega)]; split <;> rfl
      rw [hD]
      refine ⟨fun m vs => ∃ k : Nat, k ≤ l.length ∧ m = l.length - k ∧ vs = [.int .i64 (if (l.take k).any (badO f) then 4 else 0), .int .i64 k], ⟨_, 0, by omega, rfl, rfl⟩, ?_⟩
      rintro m n n' ⟨k, hk, rfl, hv⟩
      have hv' := hv
      simp only [List.cons.injEq, AV.int.injEq, true_and, and_true] at hv'
      obtain ⟨rfl, rfl⟩ := hv'
      have leave : (l.take k).any (badO f) = true → l.any (badO f) = true := fun h => by
        obtain ⟨x, hx, hb⟩ := List.any_eq_true.1 h
        exact List.any_eq_true.2 ⟨x, List.mem_of_mem_take hx, hb⟩
      refine ⟨fun g => ⟨fun g2 => ?_, fun g2 => ⟨by trivial, ?_⟩⟩, fun g => ⟨by trivial, ?_⟩⟩
      · have hlt : k < l.length := by simpa using g
        have hc : (l.take k).any (badO f) = false := by
          cases hc : (l.take k).any (badO f) with
          | false => rfl
          | true => rw [hc] at g2; simp at g2
        obtain ⟨x, hx, hx'⟩ := map_getN (f := TFeOpen.av) hlt
        have hw : IntKind.i64.wrap ((k : Int) + 1) = ((k + 1 : Nat) : Int) := wrapN (by omega)
        have hs : (l.take (k + 1)).any (badO f) = badO f x := by rw [List.take_add_one, hx, List.any_append, hc]; simp
        have next : ∀ e : Int, e = (if badO f x then 4 else 0) → ∃ m', m' < l.length - k ∧ ∃ j : Nat, j ≤ l.length ∧ m' = l.length - j ∧ [AV.int .i64 e, .int .i64 (IntKind.i64.wrap ((k : Int) + 1))] = [.int .i64 (if (l.take j).any (badO f) then 4 else 0), .int .i64 j] := by
          rintro _ rfl
          exact ⟨_, (by omega : l.length - (k + 1) < l.length - k), k + 1, by omega, rfl, by rw [hw, hs]⟩
        have hwl := wrapL f (by omega)
        rw [List.length_map] at hwl
        rw [hwl]
        refine ⟨x.Node, x.Phase, ⟨by omega, by trivial, hx'⟩, _, c55 _ _ _, fun q => ⟨by trivial, next _ ?_⟩, fun q => ⟨x.Node, x.Phase, ⟨by omega, by trivial, hx'⟩, _, c55 _ _ _, fun q2 => ⟨by trivial, next _ ?_⟩, fun q2 => ⟨by trivial, next _ ?_⟩⟩⟩
        · rw [badO, q]; rfl
        · rw [badO, q2, Bool.or_true, if_pos rfl]
        · rw [badO, q, q2, hc]; rfl
      · have hc : (l.take k).any (badO f) = true := by
          cases hc : (l.take k).any (badO f) with
          | true => rfl
          | false => rw [hc] at g2; simp at g2
        rw [hc, leave hc]
      · obtain rfl : k = l.length := by simp at g; omega
        rw [List.take_length]
    · have hD : (darkS f l).2 = n := by
        by_cases h : (checkF f).2.2 = 0
        · rw [if_neg (by simp [h])] at hn1
          by_cases g : l.length > 120
          · rw [darkS, if_neg (by simp [h]), if_pos g, hn1, if_pos g]
          · rw [if_neg g] at hn1; exact absurd hn1 hz
        · rw [darkS, if_pos h, hn1, if_pos h]
      rw [hD]
      refine ⟨fun m vs => m = 0 ∧ vs = [.int .i64 n, .int .i64 0], ⟨0, rfl, rfl⟩, ?_⟩
      rintro m n1 n2 ⟨rfl, hv⟩
      have hv' := hv
      simp only [List.cons.injEq, AV.int.injEq, true_and, and_true] at hv'
      obtain ⟨rfl, rfl⟩ := hv'
      refine ⟨fun g => ⟨fun g2 => ?_, fun g2 => ⟨by trivial, rfl⟩⟩, fun g => ⟨by trivial, rfl⟩⟩
      exact absurd (by simpa using g2) hz
  rintro n2 hn2
  have hn2 : n2 = (darkS f l).2 := by simpa using hn2
  subst hn2
  refine ⟨fun g => ⟨?_, by trivial⟩, fun g => ?_⟩
  · have g : (darkS f l).2 ≠ 0 := by simpa using g
    have : (darkS f l).1 = [] := by
      unfold darkS at g ⊢
      split
      · rfl
      · split
        · rfl
        · split
          · rfl
          · rename_i h1 h2 h3
            rw [if_neg h1, if_neg h2, if_neg h3] at g
            exact absurd rfl g
    rw [this]; rfl
  have g : (darkS f l).2 = 0 := by simpa using g
  have h : (checkF f).2.2 = 0 := by
    by_cases h : (checkF f).2.2 = 0
    · exact h
    · rw [darkS, if_pos h] at g; exact absurd g h
  have hl : l.length ≤ 120 := by
    by_cases g' : l.length > 120
    · rw [darkS, if_neg (by simp [h]), if_pos g'] at g; cases g
    · omega
  have hany : l.any (badO f) = false := by
    cases hb : l.any (badO f) with
    | false => rfl
    | true => rw [darkS, if_neg (by simp [h]), if_neg (by omega), hb, if_pos rfl] at g; cases g
  have hf := ok_of h
  have hnn := hf.nn
  have hall : ∀ x ∈ l, badO f x = false := fun x hx => by
    cases hb : badO f x with
    | false => rfl
    | true => rw [List.any_eq_true.2 ⟨x, hx, hb⟩] at hany; cases hany
  have hD : darkS f l = (darkN f l f.Nodes.length, 0) := by rw [darkS, if_neg (by simp [h]), if_neg (by omega), if_neg (by rw [hany]; simp)]
  rw [hD]
  refine ⟨fun m vs => ∃ i : Nat, i ≤ f.Nodes.length ∧ m = f.Nodes.length - i ∧ vs = [.int .i64 i, .slc 3 ((darkN f l i).map TFeOpen.av)], ⟨_, 0, by omega, rfl, rfl⟩, ?_⟩
  rintro m n es ⟨i, hi, rfl, hv⟩
  have hv' := hv
  simp only [List.cons.injEq, AV.int.injEq, true_and, AV.slc.injEq, and_true] at hv'
  obtain ⟨rfl, rfl⟩ := hv'
  refine ⟨fun g4 => ?_, fun g4 => ?_⟩
  · have hilt : i < f.Nodes.length := by simpa using g4
    have hNl := darkN_len (f := f) (l := l) i
    refine ⟨fun m vs => ∃ p : Nat, p ≤ 3 ∧ m = 3 - p ∧ vs = [.int .i64 p, .slc 3 ((darkN f l i ++ darkP f l i p).map TFeOpen.av)], ⟨_, ⟨rfl, rfl⟩, _, 0, by omega, rfl, by rw [darkP, List.append_nil]; rfl⟩, ?_⟩
    rintro m n es ⟨p, hp, rfl, hv⟩
    have hv' := hv
    simp only [List.cons.injEq, AV.int.injEq, true_and, AV.slc.injEq, and_true] at hv'
    obtain ⟨rfl, rfl⟩ := hv'
    refine ⟨fun g5 => ?_, fun g5 => ?_⟩
    · have hp3 : p < 3 := by simp at g5; omega
      have hwp : IntKind.i64.wrap ((p : Int) + 1) = ((p + 1 : Nat) : Int) := wrapN (by omega)
      have hPl := darkP_len (f := f) (l := l) (j := i) p
      obtain ⟨a1, a2⟩ := appO_ok (L := darkN f l i ++ darkP f l i p) (by rw [List.length_append]; omega) i p
      refine ⟨fun m vs => ∃ k : Nat, k ≤ l.length ∧ m = l.length - k ∧ vs = [.bool (darkB f (l.take k) i p), .int .i64 k], ⟨_, 0, by omega, rfl, rfl⟩, ?_⟩
      rintro m b n ⟨k, hk, rfl, hv⟩
      have hv' := hv
      simp only [List.cons.injEq, AV.int.injEq, true_and, AV.bool.injEq, and_true] at hv'
      obtain ⟨rfl, rfl⟩ := hv'
      refine ⟨fun g6 => ?_, fun g6 => ?_⟩
      · have hlt : k < l.length := by simpa using g6
        obtain ⟨x, hx, hx'⟩ := map_getN (f := TFeOpen.av) hlt
        obtain ⟨b1, b2, b3, b4⟩ := good_of (hall x (List.mem_of_getElem? hx))
        have hs := dark_step (f := f) (j := i) (p := p) hx
        have hw : IntKind.i64.wrap ((k : Int) + 1) = ((k + 1 : Nat) : Int) := wrapN (by omega)
        have next : ∀ b : Bool, b = darkB f (l.take (k + 1)) i p → ∃ m', m' < l.length - k ∧ ∃ j : Nat, j ≤ l.length ∧ m' = l.length - j ∧ [AV.bool b, .int .i64 (IntKind.i64.wrap ((k : Int) + 1))] = [.bool (darkB f (l.take j) i p), .int .i64 j] := by
          rintro _ rfl
          exact ⟨_, (by omega : l.length - (k + 1) < l.length - k), k + 1, by omega, rfl, by rw [hw]⟩
        refine ⟨fun g7 => ?_, fun g7 => ?_⟩
        · repeat first | refine And.intro rfl ?_ | refine And.intro trivial ?_
          exact next _ (by rw [hs, g7]; rfl)
        · rw [g7, Bool.false_or] at hs
          refine ⟨x.Node, x.Phase, ⟨by omega, by trivial, hx'⟩, fun q => ⟨x.Node, x.Phase, ⟨by omega, by trivial, hx'⟩, fun q2 => ?_, fun q2 => ⟨x.Node, x.Phase, ⟨by omega, by trivial, hx'⟩, anc f x.Node.toNat i, ?_, ?_⟩⟩, fun q => ?_⟩
          · have q : x.Phase = p := by simpa using q
            have q2 : x.Node = 0 := by simpa using q2
            repeat first | refine And.intro rfl ?_ | refine And.intro trivial ?_
            refine next _ ?_
            rw [hs, q2, q]; simp [undB]
          · have := c88 hf x.Node.toNat i hilt
            rw [show ((x.Node.toNat : Nat) : Int) = x.Node by omega] at this
            exact this
          · have q : x.Phase = p := by simpa using q
            have q2 : x.Node ≠ 0 := by simpa using q2
            repeat first | refine And.intro rfl ?_ | refine And.intro trivial ?_
            refine next _ ?_
            have : ¬ x.Node.toNat = 0 := by omega
            rw [hs, q]; simp [undB, this]
          · have q : ¬ x.Phase = p := by simpa using q
            repeat first | refine And.intro rfl ?_ | refine And.intro trivial ?_
            refine next _ ?_
            have : ¬ x.Phase.toNat = p := by omega
            rw [hs]; simp [this]
      · obtain rfl : k = l.length := by simp at g6; omega
        rw [List.take_length]
        refine ⟨fun g6 => ⟨a1, a2, ?_⟩, fun g6 => ?_⟩
        · repeat first | refine And.intro rfl ?_ | refine And.intro trivial ?_
          exact ⟨_, appO_next _ _ _, _, (by omega : 3 - (p + 1) < 3 - p), p + 1, by omega, rfl, by rw [hwp, darkP, if_pos g6, List.append_assoc]⟩
        · repeat first | refine And.intro rfl ?_ | refine And.intro trivial ?_
          exact ⟨_, ⟨rfl, rfl⟩, _, (by omega : 3 - (p + 1) < 3 - p), p + 1, by omega, rfl, by rw [hwp, darkP, if_neg (by rw [g6]; simp), List.append_nil]⟩
    · obtain rfl : p = 3 := by simp at g5; omega
      repeat first | refine And.intro rfl ?_ | refine And.intro trivial ?_
      exact ⟨_, ⟨rfl, rfl⟩, _, (by omega : f.Nodes.length - (i + 1) < f.Nodes.length - i), i + 1, by omega, rfl, by rw [wrapN (by omega), darkN]⟩
  · obtain rfl : i = f.Nodes.length := by simp at g4; omega
    refine ⟨?_, ?_, by trivial⟩
    · rw [(flatO _).2.1, List.length_map]; omega
    · rw [chunksO])
theorem op73 {d : Nat} {cs : List AV} (h : CellsT Try.prog d 73 cs) : ∃ x : TFeOpen, cs = x.cs := by
  obtain ⟨d1, ps, rfl, hl, hp⟩ := cells_struct (tys := [3, 3]) (by kernel_rfl) h
  match ps, hl with
  | [p0, p1], _ =>
    obtain ⟨x0, ex0, _⟩ := cells_int (k := .i64) (by kernel_rfl) (hp 0 _ rfl)
    have ex0 : p0 = _ := ex0
    subst ex0
    obtain ⟨x1, ex1, _⟩ := cells_int (k := .i64) (by kernel_rfl) (hp 1 _ rfl)
    have ex1 : p1 = _ := ex1
    subst ex1
    exact ⟨⟨x0, x1⟩, rfl⟩
theorem op67 {d : Nat} {cs : List AV} (h : CellsT Try.prog d 67 cs) : ∃ l : List TFeOpen, cs = [.slc 3 (l.map TFeOpen.av)] := by
  obtain ⟨l, h1, _⟩ := cells_slice (g := TFeOpen.av) (by kernel_rfl) (fun d p hp => by obtain ⟨x, rfl⟩ := op73 hp; exact ⟨x, by rw [if_pos (show isAggT Try.prog 73 = true by kernel_rfl)]; rfl⟩) h
  exact ⟨l, h1⟩
theorem dark_len (f : TFeFeeder) (l : List TFeOpen) : (darkS f l).1.length ≤ 120 := by
  unfold darkS
  split
  · simp
  · rename_i h
    have hf := ok_of (by simpa using h)
    have h1 := darkN_len (f := f) (l := l) f.Nodes.length
    have := hf.nn
    split
    · simp
    · split
      · simp
      · dsimp only; omega
def R35 (a : List TFeOpen) (b : List TFeOpen) (_S : SpecF) (_Fr : FuncId → List AV → Nat → List AV → Prop) (_Sq : FuncId → List AV → List (List AV) → List (List AV) → Prop) (Q : AV → List (List AV) → Prop) : Prop :=
  (((↑(List.map TFeOpen.av a).length : Int) != (↑(List.map TFeOpen.av b).length : Int)) = true → Q (AV.bool false) []) ∧ (((↑(List.map TFeOpen.av a).length : Int) != (↑(List.map TFeOpen.av b).length : Int)) = false → ∃ (I2 : Nat → List AV → Prop), (∃ m4, I2 m4 [AV.int .i64 (0 : Int)]) ∧ ∀ (m4 : Nat) (n5 : Int), I2 m4 [AV.int .i64 n5] → (decide (n5 < (↑(List.map TFeOpen.av a).length : Int)) = true → ∃ n9 n10, ((0 : Int) ≤ n5 ∧ (2 : Nat) = (2 : Nat) ∧ (List.map TFeOpen.av a)[n5.toNat]? = some (AV.agg [AV.int .i64 n9, AV.int .i64 n10])) ∧ ∃ n12 n13, ((0 : Int) ≤ n5 ∧ (2 : Nat) = (2 : Nat) ∧ (List.map TFeOpen.av b)[n5.toNat]? = some (AV.agg [AV.int .i64 n12, AV.int .i64 n13])) ∧ ((!(n9 == n12 && (n10 == n13 && true))) = true → Q (AV.bool false) []) ∧ ((!(n9 == n12 && (n10 == n13 && true))) = false → ∃ k17, k17 < m4 ∧ I2 k17 [AV.int .i64 (IntKind.i64.wrap (n5 + (1 : Int)))])) ∧ (decide (n5 < (↑(List.map TFeOpen.av a).length : Int)) = false → Q (AV.bool true) []))
theorem r35 (a : List TFeOpen) (b : List TFeOpen) (S : SpecF) (Fr : FuncId → List AV → Nat → List AV → Prop) (Sq : FuncId → List AV → List (List AV) → List (List AV) → Prop) (Q : AV → List (List AV) → Prop) : awpF Try.prog (mkS Try.prog S Fr Sq ⟨[], [], [], [], []⟩ 0) 0 ⟨[0, 1, 4, 5, 10, 14, 25], [⟨4, [(5, .int .i64 0)], [], [], [], []⟩], [], []⟩ Try.f35 [.slc 3 (List.map TFeOpen.av a), .slc 3 (List.map TFeOpen.av b)] [] Q = R35 a b S Fr Sq Q := by kernel_rfl
theorem s35 (a : List TFeOpen) (b : List TFeOpen) (v : AV) (O : List (List AV)) (h : R35 a b (SpecOf Try.prog) (FreshOf Try.prog) (SeqOf Try.prog) (fun r O' => r = v ∧ O' = O)) : SpecOf Try.prog 35 [.slc 3 (List.map TFeOpen.av a), .slc 3 (List.map TFeOpen.av b)] [] v O :=
  spec_by (boxes := []) mixed (by exact trivial) Try.func35 Try.call35 rfl rfl rfl (Nat.le_of_ble_eq_true rfl) (r35 a b (SpecOf Try.prog) (FreshOf Try.prog) (SeqOf Try.prog) _) h
theorem c35 (l : List TFeOpen) (hl : l.length ≤ 1000000) : Sp 35 [.slc 3 (List.map TFeOpen.av l), .slc 3 (List.map TFeOpen.av l)] [] (.bool true) [] := s35 l l _ _ (by
  unfold R35
  refine ⟨fun g => (by simp at g), fun _ => ?_⟩
  refine ⟨fun m vs => ∃ k : Nat, k ≤ l.length ∧ m = l.length - k ∧ vs = [.int .i64 k], ⟨_, 0, by omega, rfl, rfl⟩, ?_⟩
  rintro m n ⟨k, hk, rfl, hv⟩
  cases hv
  simp only [List.length_map]
  refine ⟨fun g => ?_, fun g => ⟨by trivial, by trivial⟩⟩
  have hlt : k < l.length := by simpa using g
  obtain ⟨x, hx, hx'⟩ := map_getN (f := TFeOpen.av) hlt
  refine ⟨x.Node, x.Phase, ⟨by omega, by trivial, hx'⟩, x.Node, x.Phase, ⟨by omega, by trivial, hx'⟩, fun q => (by simp at q), fun _ => ⟨_, (by omega : l.length - (k + 1) < l.length - k), k + 1, by omega, rfl, by rw [wrapN (by omega)]⟩⟩)
end Go.Proofs.Ytbdbnpnichkcjaa

/- The plain law of FeedWider: a feeder with a node whose loads are wider. -/
import Derived.Test.YtbdbnpnichkcjaaK2
import Derived.Test.YtbdbnpnichkcjaaZ6
namespace Go.Proofs.Ytbdbnpnichkcjaa
open Go.RowKit
def wid (x : TEncl) (b : Int) : TEncl := ⟨if 0 > x.Lo - b then 0 else x.Lo - b, if 1000000 < x.Hi + b then 1000000 else x.Hi + b⟩
def wnode (x : TFeNode) (b0 b1 b2 : Int) : TFeNode := { x with Loads0 := wid x.Loads0 b0, Loads1 := wid x.Loads1 b1, Loads2 := wid x.Loads2 b2 }
def wide (f : TFeFeeder) (k : Nat) (b0 b1 b2 : Int) : TFeFeeder := { f with Nodes := f.Nodes.set k (wnode (nd f k) b0 b1 b2) }
structure By (b0 b1 b2 : Int) : Prop where
  b0 : 0 ≤ b0 ∧ b0 ≤ 65535
  b1 : 0 ≤ b1 ∧ b1 ≤ 65535
  b2 : 0 ≤ b2 ∧ b2 ≤ 65535
theorem wid_ok {x : TEncl} {b : Int} (hb : 0 ≤ b ∧ b ≤ 65535) (h : 0 ≤ x.Lo ∧ x.Lo ≤ x.Hi ∧ x.Hi ≤ 1000000) : (0 ≤ (wid x b).Lo ∧ (wid x b).Lo ≤ (wid x b).Hi ∧ (wid x b).Hi ≤ 1000000) ∧ inE x (wid x b) := by
  unfold wid inE
  dsimp only
  split <;> split <;> omega
section
variable {f : TFeFeeder} {k : Nat} {b0 b1 b2 : Int}
theorem wide_len : (wide f k b0 b1 b2).Nodes.length = f.Nodes.length := by simp [wide]
theorem wide_nd {i : Nat} (hi : i < f.Nodes.length) : nd (wide f k b0 b1 b2) i = if i = k then wnode (nd f k) b0 b1 b2 else nd f i := by
  unfold nd wide
  dsimp only
  rw [List.getD, List.getElem?_set]
  by_cases h : k = i
  · subst h
    rw [if_pos rfl, if_pos hi, if_pos rfl]; rfl
  · rw [if_neg h, if_neg (Ne.symm h)]; rfl
theorem wide_core {i : Nat} (hi : i < f.Nodes.length) : (nd (wide f k b0 b1 b2) i).Name = (nd f i).Name ∧ (nd (wide f k b0 b1 b2) i).Parent = (nd f i).Parent ∧ (nd (wide f k b0 b1 b2) i).Cable = (nd f i).Cable ∧ (nd (wide f k b0 b1 b2) i).Length = (nd f i).Length ∧ (nd (wide f k b0 b1 b2) i).Fuse = (nd f i).Fuse := by
  rw [wide_nd hi]
  split
  · rename_i h; subst h; exact ⟨rfl, rfl, rfl, rfl, rfl⟩
  · exact ⟨rfl, rfl, rfl, rfl, rfl⟩
theorem wide_names (hk : k < f.Nodes.length) : (wide f k b0 b1 b2).Nodes.map TFeNode.Name = f.Nodes.map TFeNode.Name := by
  unfold wide
  dsimp only
  rw [List.map_set]
  have : (f.Nodes.map TFeNode.Name)[k]'(by simpa using hk) = (wnode (nd f k) b0 b1 b2).Name := by
    rw [List.getElem_map]
    have := nd_get hk
    rw [List.getElem?_eq_getElem hk] at this
    rw [Option.some.inj this]; rfl
  rw [← this]; exact List.set_getElem_self _
theorem firstE_zero {e : Nat → Int} : ∀ (n i : Nat), (∀ j, i ≤ j → j < i + n → e j = 0) → (firstE e n i).2 = 0 := by
  intro n
  induction n with
  | zero => intro i _; rfl
  | succ n ih =>
    intro i h
    simp only [firstE]
    rw [if_neg (by rw [h i (by omega) (by omega)]; simp)]
    exact ih (i + 1) fun j h1 h2 => h j (by omega) (by omega)
theorem any_names {l : List TFeNode} {i : Nat} {z : ByteArray} : (l.take i).any (fun y => twinB y.Name z) = ((l.map TFeNode.Name).take i).any (fun n => twinB n z) := by
  rw [← List.map_take, List.any_map]; rfl
theorem wide_err (hf : OK f) (hk : k < f.Nodes.length) (h0 : k ≠ 0) (hb : By b0 b1 b2) {i : Nat} (hi : i < f.Nodes.length) :
    errAt TFeNode.Name (nodeS f.Cables.length f.Fuses.length) (wide f k b0 b1 b2).Nodes i = 0 := by
  have h1 := hf.nodes i hi
  have hg : (wide f k b0 b1 b2).Nodes[i]? = some (nd (wide f k b0 b1 b2) i) := nd_get (by rw [wide_len]; exact hi)
  rw [errAt_some (nd_get hi)] at h1
  rw [errAt_some hg]
  obtain ⟨e1, e2, e3, e4, e5⟩ := wide_core (k := k) (b0 := b0) (b1 := b1) (b2 := b2) hi
  rw [any_names, wide_names hk, e1, ← any_names]
  split at h1
  · cases h1
  rename_i hn
  rw [if_neg hn]
  split at h1
  · cases h1
  rename_i ht
  rw [if_neg ht]
  by_cases hik : i = k
  · subst hik
    unfold nodeS at h1 ⊢
    rw [if_neg h0] at h1 ⊢
    split at h1
    · cases h1
    rename_i hp
    rw [e2, e3, e4, e5, if_neg hp]
    split at h1
    · cases h1
    rename_i hl
    rw [if_neg]
    have hno := node_ok hf hk h0
    rw [Bool.or_eq_true, not_or] at hl ⊢
    refine ⟨hl.1, ?_⟩
    rw [wide_nd hi, if_pos rfl]
    have w0 := (wid_ok hb.b0 hno.l0).1
    have w1 := (wid_ok hb.b1 hno.l1).1
    have w2 := (wid_ok hb.b2 hno.l2).1
    simp only [wnode, List.any_cons, List.any_nil, wildE, Bool.or_false, Bool.or_eq_true, Bool.not_eq_true', not_or, Bool.not_eq_false]
    exact ⟨wiB_iff.2 w0, wiB_iff.2 w1, wiB_iff.2 w2⟩
  · rw [wide_nd hi, if_neg hik]; exact h1
theorem wide_check (hc : (checkF f).2.2 = 0) (hk : k < f.Nodes.length) (h0 : k ≠ 0) (hb : By b0 b1 b2) : (checkF (wide f k b0 b1 b2)).2.2 = 0 := by
  have hf := ok_of hc
  have hz : (firstE (errAt TFeNode.Name (nodeS f.Cables.length f.Fuses.length) (wide f k b0 b1 b2).Nodes) f.Nodes.length 0).2 = 0 := firstE_zero _ _ fun j _ hj => wide_err hf hk h0 hb (by omega)
  unfold checkF at hc ⊢
  rw [wide_len]
  show (if 10 < f.Cables.length ∨ 10 < f.Fuses.length ∨ 40 < f.Nodes.length then _ else _ : Int × Int × Int).2.2 = 0
  split at hc
  · rename_i h; exact absurd hc (by simp)
  rename_i c1
  rw [if_neg c1]
  split at hc
  · exact absurd hc (by simp)
  rename_i c2
  rw [if_neg c2]
  split at hc
  · exact absurd hc (by simp)
  rename_i c3
  have c3' : ¬ (!(wiB (wide f k b0 b1 b2).Volts 1 1000000 && wiB (wide f k b0 b1 b2).Source 1 1000000000 && inB (wide f k b0 b1 b2).Drop 0 1000000 && inB (wide f k b0 b1 b2).Limit 1 100000000)) = true := c3
  rw [if_neg c3']
  dsimp only at hc ⊢
  split at hc
  · rename_i h; exact absurd hc h
  rename_i c4
  have c4' : ¬ (firstE (errAt TFeCable.Name cableS (wide f k b0 b1 b2).Cables) (wide f k b0 b1 b2).Cables.length 0).2 ≠ 0 := c4
  rw [if_neg c4']
  split at hc
  · rename_i h; exact absurd hc h
  rename_i c5
  have c5' : ¬ (firstE (errAt TFeFuse.Name curveS (wide f k b0 b1 b2).Fuses) (wide f k b0 b1 b2).Fuses.length 0).2 ≠ 0 := c5
  rw [if_neg c5']
  have c6' : ¬ (firstE (errAt TFeNode.Name (nodeS (wide f k b0 b1 b2).Cables.length (wide f k b0 b1 b2).Fuses.length) (wide f k b0 b1 b2).Nodes) f.Nodes.length 0).2 ≠ 0 := fun h => h hz
  rw [if_neg c6']
theorem wide_nok (hn : NOK f) (hk : k < f.Nodes.length) : NOK (wide f k b0 b1 b2) := by
  refine ⟨hn.1, hn.2.1, fun x hx => ?_⟩
  have hx' : x ∈ f.Nodes.set k (wnode (nd f k) b0 b1 b2) := hx
  rcases List.mem_or_eq_of_mem_set hx' with h | h
  · exact hn.2.2 x h
  · rw [h]; exact hn.2.2 (nd f k) (List.mem_of_getElem? (nd_get hk))
theorem wide_par {i : Nat} (hi : i < f.Nodes.length) : par (wide f k b0 b1 b2) i = par f i := by unfold par; rw [(wide_core hi).2.1]
theorem wide_up (hf : OK f) : ∀ {i : Nat}, i < f.Nodes.length → ∀ j, upF (wide f k b0 b1 b2) j i = upF f j i := by
  intro i hi j
  induction j generalizing i with
  | zero => rfl
  | succ j ih =>
    simp only [upF]
    by_cases h0 : i = 0
    · rw [if_pos h0, if_pos h0]
    · rw [if_neg h0, if_neg h0, wide_par hi, ih (by have := (par_lt hf hi h0).1; omega)]
theorem wide_upL (hf : OK f) {i : Nat} (hi : i < f.Nodes.length) : upL (wide f k b0 b1 b2) i = upL f i := wide_up hf hi i
theorem wide_loads (hf : OK f) (hk : k < f.Nodes.length) (h0 : k ≠ 0) (hb : By b0 b1 b2) (e : TFeNode → TEncl) (he : e = TFeNode.Loads0 ∨ e = TFeNode.Loads1 ∨ e = TFeNode.Loads2) {i : Nat} (hi : i < f.Nodes.length) :
    inE (e (nd f i)) (e (nd (wide f k b0 b1 b2) i)) := by
  rw [wide_nd hi]
  split
  · rename_i h
    subst h
    have hno := node_ok hf hk h0
    rcases he with rfl | rfl | rfl
    · exact (wid_ok hb.b0 hno.l0).2
    · exact (wid_ok hb.b1 hno.l1).2
    · exact (wid_ok hb.b2 hno.l2).2
  · exact ⟨Int.le_refl _, Int.le_refl _⟩
/-- Currents are wider. -/
theorem wide_cur (hf : OK f) (hk : k < f.Nodes.length) (h0 : k ≠ 0) (hb : By b0 b1 b2) (e : TFeNode → TEncl) (he : e = TFeNode.Loads0 ∨ e = TFeNode.Loads1 ∨ e = TFeNode.Loads2) (a : Nat) :
    inE (curE f e a) (curE (wide f k b0 b1 b2) e a) := by
  have ha : ∀ i, i < f.Nodes.length → anc (wide f k b0 b1 b2) a i = anc f a i := fun i hi => by unfold anc; rw [wide_upL hf hi]
  unfold curE cur inE
  dsimp only
  rw [wide_len]
  constructor
  · refine sumTo_le fun i hi => ?_
    rw [ha i hi]
    split
    · exact (wide_loads hf hk h0 hb e he hi).1
    · exact Int.le_refl _
  · refine sumTo_le fun i hi => ?_
    rw [ha i hi]
    split
    · exact (wide_loads hf hk h0 hb e he hi).2
    · exact Int.le_refl _
theorem wide_neut (hc : (checkF f).2.2 = 0) (hk : k < f.Nodes.length) (h0 : k ≠ 0) (hb : By b0 b1 b2) (a : Nat) : neutN f a ≤ neutN (wide f k b0 b1 b2) a := by
  have hf := ok_of hc
  have hw := ok_of (wide_check hc hk h0 hb)
  exact neut_mono (curE_ok hf _ (.inl rfl) a) (curE_ok hf _ (.inr (.inl rfl)) a) (curE_ok hf _ (.inr (.inr rfl)) a) (curE_ok hw _ (.inl rfl) a) (curE_ok hw _ (.inr (.inl rfl)) a) (curE_ok hw _ (.inr (.inr rfl)) a)
    (wide_cur hf hk h0 hb _ (.inl rfl) a) (wide_cur hf hk h0 hb _ (.inr (.inl rfl)) a) (wide_cur hf hk h0 hb _ (.inr (.inr rfl)) a)
theorem wide_hi (hf : OK f) (hk : k < f.Nodes.length) (h0 : k ≠ 0) (hb : By b0 b1 b2) (a : Nat) (p : Int) : hiP f a p ≤ hiP (wide f k b0 b1 b2) a p := by
  have c0 := (wide_cur hf hk h0 hb _ (.inl rfl) a).2
  have c1 := (wide_cur hf hk h0 hb _ (.inr (.inl rfl)) a).2
  have c2 := (wide_cur hf hk h0 hb _ (.inr (.inr rfl)) a).2
  unfold hiP phE
  split
  · exact c0
  · split
    · exact c1
    · exact c2
theorem sumL_mono {g h : Nat → Int} : ∀ {l : List Nat}, (∀ i ∈ l, g i ≤ h i) → sumL g l ≤ sumL h l := by
  intro l
  induction l with
  | nil => intro _; simp [sumL]
  | cons x l ih =>
    intro hl
    have h1 := hl x (by simp)
    have h2 := ih fun i hi => hl i (List.mem_cons_of_mem _ hi)
    have e1 : sumL g (x :: l) = g x + sumL g l := rfl
    have e2 : sumL h (x :: l) = h x + sumL h l := rfl
    omega
theorem wide_cb {i : Nat} (hi : i < f.Nodes.length) : cb (wide f k b0 b1 b2) i = cb f i := by unfold cb; rw [(wide_core hi).2.2.1]; rfl
theorem wide_drop (hc : (checkF f).2.2 = 0) (hk : k < f.Nodes.length) (h0 : k ≠ 0) (hb : By b0 b1 b2) {i : Nat} (hi : i < f.Nodes.length) (p : Int) : dropS f i p ≤ dropS (wide f k b0 b1 b2) i p := by
  have hf := ok_of hc
  have hr : ∀ j, j < f.Nodes.length → rOf (wide f k b0 b1 b2) j = rOf f j := fun j hj => by unfold rOf; rw [wide_cb hj, (wide_core hj).2.2.2.1]
  have hno : ∀ j, nOf f p j ≤ nOf (wide f k b0 b1 b2) p j := fun j => by
    have h1 := wide_hi hf hk h0 hb j p
    have h2 := wide_neut hc hk h0 hb j
    unfold hiP at h1
    unfold neutN at h2
    unfold nOf; omega
  have hm := fun j (hj : j ∈ upL f i) => upL_mem hf hi hj
  have hw : sumL (wholeG f p) (upL f i) ≤ sumL (wholeG (wide f k b0 b1 b2) p) (upL f i) := sumL_mono fun j hj => by
    have := hm j hj
    have hrb := rOf_bound hf this.2.1 this.1
    unfold wholeG
    rw [hr j this.2.1]
    exact Int.mul_le_mul_of_nonneg_left (hno j) (by omega)
  have hml : sumL (millG f p) (upL f i) ≤ sumL (millG (wide f k b0 b1 b2) p) (upL f i) := sumL_mono fun j hj => by
    have := hm j hj
    have hrb := rOf_bound hf this.2.1 this.1
    unfold millG
    rw [hr j this.2.1]
    exact Int.mul_le_mul_of_nonneg_left (hno j) (by omega)
  unfold dropS
  rw [wide_upL hf hi]
  omega
theorem wide_fz {i : Nat} (hi : i < f.Nodes.length) : fz (wide f k b0 b1 b2) i = fz f i ∧ hasF (wide f k b0 b1 b2) i = hasF f i := by
  unfold fz hasF; rw [(wide_core hi).2.2.2.2]; exact ⟨rfl, rfl⟩
theorem wide_load (hf : OK f) (hk : k < f.Nodes.length) (h0 : k ≠ 0) (hb : By b0 b1 b2) {i : Nat} (hi : i < f.Nodes.length) {p : Int} (h : loadB f i p = true) : loadB (wide f k b0 b1 b2) i p = true := by
  have hh := wide_hi hf hk h0 hb i p
  unfold loadB at h ⊢
  rw [wide_cb hi, (wide_fz hi).1, (wide_fz hi).2]
  simp only [Bool.or_eq_true, Bool.and_eq_true, decide_eq_true_eq] at h ⊢
  rcases h with h | h
  · left; omega
  · right; exact ⟨h.1, by omega⟩
end
theorem mem_loadL {f : TFeFeeder} {i : Nat} {x : TFeFault} : ∀ {p : Nat}, x ∈ loadL f i p ↔ ∃ q : Nat, q < p ∧ loadB f i q = true ∧ x = ⟨160, i, q⟩ := by
  intro p
  induction p with
  | zero => simp [loadL]
  | succ p ih =>
    rw [loadL, List.mem_append, ih]
    constructor
    · rintro (⟨q, h1, h2, h3⟩ | h)
      · exact ⟨q, by omega, h2, h3⟩
      · split at h
        · rename_i hb; exact ⟨p, by omega, hb, by simpa using h⟩
        · cases h
    · rintro ⟨q, h1, h2, h3⟩
      by_cases hq : q = p
      · right; subst hq; rw [if_pos h2]; simpa using h3
      · left; exact ⟨q, by omega, h2, h3⟩
theorem mem_dropL {f : TFeFeeder} {i : Nat} {x : TFeFault} : ∀ {p : Nat}, x ∈ dropL f i p ↔ ∃ q : Nat, q < p ∧ dropS f i q > f.Drop ∧ x = ⟨161, i, q⟩ := by
  intro p
  induction p with
  | zero => simp [dropL]
  | succ p ih =>
    rw [dropL, List.mem_append, ih]
    constructor
    · rintro (⟨q, h1, h2, h3⟩ | h)
      · exact ⟨q, by omega, h2, h3⟩
      · split at h
        · rename_i hb; exact ⟨p, by omega, by simpa using hb, by simpa using h⟩
        · cases h
    · rintro ⟨q, h1, h2, h3⟩
      by_cases hq : q = p
      · right; subst hq; rw [if_pos (by simpa using h2)]; simpa using h3
      · left; exact ⟨q, by omega, h2, h3⟩
theorem mem_look {f : TFeFeeder} {i : Nat} {x : TFeFault} : x ∈ lookZ f i 3 ↔ i ≠ 0 ∧ (x ∈ loadL f i 3 ∨ x ∈ dropL f i 3 ∨ x ∈ protL f i) := by
  unfold lookZ
  split
  · rename_i h; simp [h]
  · rename_i h
    rw [lookL]
    · simp [h]
    all_goals (intros; omega)
theorem mem_judge {f : TFeFeeder} {x : TFeFault} : ∀ {n : Nat}, x ∈ judgeL f n ↔ ∃ i, i < n ∧ x ∈ lookZ f i 3 := by
  intro n
  induction n with
  | zero => simp [judgeL]
  | succ n ih =>
    rw [judgeL, List.mem_append, ih]
    constructor
    · rintro (⟨i, h1, h2⟩ | h)
      · exact ⟨i, by omega, h2⟩
      · exact ⟨n, by omega, h⟩
    · rintro ⟨i, h1, h2⟩
      by_cases hi : i = n
      · right; rw [← hi]; exact h2
      · left; exact ⟨i, by omega, h2⟩
theorem prot_errors {f : TFeFeeder} {i : Nat} {x : TFeFault} (h : x ∈ protL f i) : x.Error ≠ 160 ∧ x.Error ≠ 161 := by
  have he : ∀ g r e, x ∈ earthL f i g r e → x.Error ≠ 160 ∧ x.Error ≠ 161 := fun g r e h => by
    unfold earthL at h
    rcases List.mem_append.1 h with h | h
    · unfold slowL at h
      split at h
      · simp only [List.mem_singleton] at h; rw [h]; exact ⟨by simp, by simp⟩
      · cases h
    · unfold othL at h
      obtain ⟨o, _, rfl⟩ := List.mem_map.1 h
      exact ⟨by simp, by simp⟩
  unfold protL at h
  split at h
  · simp only [List.mem_singleton] at h; rw [h]; exact ⟨by simp, by simp⟩
  · rename_i g r _
    have h : x ∈ earthL f i g r false ++ earthL f i g r true := h
    rcases List.mem_append.1 h with h | h
    · exact he _ _ _ h
    · exact he _ _ _ h
/-- No error of a load or a drop goes away. -/
theorem wide_judge {f : TFeFeeder} {k : Nat} {b0 b1 b2 : Int} (hc : (checkF f).2.2 = 0) (hk : k < f.Nodes.length) (h0 : k ≠ 0) (hb : By b0 b1 b2) {x : TFeFault} (hx : x ∈ judgeL f f.Nodes.length) (he : x.Error = 160 ∨ x.Error = 161) :
    x ∈ judgeL (wide f k b0 b1 b2) f.Nodes.length := by
  have hf := ok_of hc
  obtain ⟨i, hi, hl⟩ := mem_judge.1 hx
  refine mem_judge.2 ⟨i, hi, ?_⟩
  obtain ⟨hi0, hl⟩ := mem_look.1 hl
  refine mem_look.2 ⟨hi0, ?_⟩
  rcases hl with hl | hl | hl
  · left
    obtain ⟨q, h1, h2, h3⟩ := mem_loadL.1 hl
    exact mem_loadL.2 ⟨q, h1, wide_load hf hk h0 hb hi h2, h3⟩
  · right; left
    obtain ⟨q, h1, h2, h3⟩ := mem_dropL.1 hl
    have := wide_drop hc hk h0 hb hi q
    exact mem_dropL.2 ⟨q, h1, by show dropS (wide f k b0 b1 b2) i q > f.Drop; omega, h3⟩
  · have := prot_errors hl
    rcases he with he | he
    · exact absurd he this.1
    · exact absurd he this.2
end Go.Proofs.Ytbdbnpnichkcjaa

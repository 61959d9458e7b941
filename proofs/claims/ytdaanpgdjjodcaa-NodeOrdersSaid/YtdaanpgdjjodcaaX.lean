/- NodeOrders: what it says of what the code computes; contracts of the functions that it calls. -/
import Derived.Test.YtdaanpgdjjodcaaU
namespace Go.Proofs.Ytdaanpgdjjodcaa
open Go.RowKit
def tstep (c : TNdSet) (s : TNdState) (m : TNdMessage) : TNdState := if (takeS c s m).2 = 0 then (takeS c s m).1 else s
def takenS (c : TNdSet) (s : TNdState) (l : List TNdMessage) : TNdState := l.foldl (tstep c) s
/-- What a message brings, and what a state has of it. -/
def payM (m : TNdMessage) : TNdPlan × TNdHold × Int := if m.Kind = 2 then (m.Plan, .zero, 0) else if m.Kind = 5 then (.zero, .zero, m.Version) else (.zero, m.Hold, 0)
def pay (s : TNdState) (k : Int) : TNdPlan × TNdHold × Int := if k = 2 then (s.Plan, .zero, 0) else if k = 5 then (.zero, .zero, s.Version) else if k = 3 then (.zero, s.Dim, 0) else (.zero, s.Force, 0)
/-- A message that is taken, if it is new. -/
def valid (c : TNdSet) (m : TNdMessage) : Prop := shapedB m = true ∧ inB m.Number 1 1000000000 = true ∧ kindS c m = 0
theorem refused_iff {c : TNdSet} {s : TNdState} {m : TNdMessage} : refusedS c s m = 0 ↔ valid c m ∧ num s m.Kind < m.Number := by
  rw [take_parts]
  constructor
  · rintro ⟨a, b, d, e⟩; exact ⟨⟨a, b, e⟩, d⟩
  · rintro ⟨⟨a, b, e⟩, d⟩; exact ⟨a, b, d, e⟩
def isK (k : Int) : Prop := k = 2 ∨ k = 3 ∨ k = 4 ∨ k = 5
/-- What holds of the outcome for each kind. -/
structure Told (c : TNdSet) (l : List TNdMessage) (s w : TNdState) : Prop where
  n0 : w.Numbers0 = s.Numbers0
  n1 : w.Numbers1 = s.Numbers1
  k : ∀ k, isK k → ((num w k = num s k ∧ pay w k = pay s k) ∨ ∃ m ∈ l, valid c m ∧ m.Kind = k ∧ num w k = m.Number ∧ pay w k = payM m ∧ num s k < m.Number) ∧
    num s k ≤ num w k ∧ ∀ m ∈ l, valid c m → m.Kind = k → m.Number ≤ num w k
theorem num_free (s : TNdState) (n l k : Int) : num { s with Count := n, Level := l } k = num s k := rfl
theorem pay_free (s : TNdState) (n l k : Int) : pay { s with Count := n, Level := l } k = pay s k := rfl
theorem set_num (s : TNdState) (m : TNdMessage) (h1 : 1 ≤ m.Kind ∧ m.Kind ≤ 5) (h : m.Kind ≠ 1) : (changeS (setNum s m.Kind m.Number) m).Numbers0 = s.Numbers0 ∧ (changeS (setNum s m.Kind m.Number) m).Numbers1 = s.Numbers1 ∧
    ∀ k, isK k → num (changeS (setNum s m.Kind m.Number) m) k = (if k = m.Kind then m.Number else num s k) ∧ pay (changeS (setNum s m.Kind m.Number) m) k = (if k = m.Kind then payM m else pay s k) := by
  rcases (by omega : m.Kind = 2 ∨ m.Kind = 3 ∨ m.Kind = 4 ∨ m.Kind = 5) with hk | hk | hk | hk
  all_goals
    rw [hk]
    refine ⟨by simp [changeS, setNum, hk], by simp [changeS, setNum, hk], ?_⟩
    rintro k (rfl | rfl | rfl | rfl) <;> simp [changeS, setNum, num, pay, payM, hk]
theorem told_step {c : TNdSet} {s : TNdState} {m : TNdMessage} (h : stateS c s = 0) (hc : s.Count ≠ 1000000000) (hk : m.Kind ≠ 1) : Told c [m] s (tstep c s m) ∧ stateS c (tstep c s m) = 0 ∧ (tstep c s m).Count ≤ s.Count + 1 := by
  unfold tstep
  by_cases he : (takeS c s m).2 = 0
  · rw [if_pos he]
    obtain ⟨hr, hi, e⟩ := take_inv h he
    obtain ⟨hv, hn⟩ := refused_iff.1 hr
    have hkk := shaped_kind hv.1
    obtain ⟨a0, a1, a2⟩ := set_num s m hkk hk
    refine ⟨?_, hi.1, by rw [e]; exact Int.le_refl _⟩
    rw [e]
    refine ⟨a0, a1, fun k hK => ?_⟩
    rw [num_free, pay_free]
    obtain ⟨b1, b2⟩ := a2 k hK
    rw [b1, b2]
    by_cases hkm : k = m.Kind
    · subst hkm
      simp only [if_true]
      refine ⟨.inr ⟨m, by simp, hv, rfl, rfl, rfl, hn⟩, by omega, fun t ht _ _ => ?_⟩
      rw [List.mem_singleton.1 ht]; exact Int.le_refl _
    · rw [if_neg hkm, if_neg hkm]
      refine ⟨.inl ⟨rfl, rfl⟩, Int.le_refl _, fun t ht _ e => ?_⟩
      rw [List.mem_singleton.1 ht] at e
      exact absurd e.symm hkm
  · rw [if_neg he]
    refine ⟨⟨rfl, rfl, fun k hK => ⟨.inl ⟨rfl, rfl⟩, Int.le_refl _, fun t ht hv e => ?_⟩⟩, h, by omega⟩
    rw [List.mem_singleton.1 ht] at hv e ⊢
    by_cases hlt : num s k < m.Number
    · exfalso
      subst e
      have hr := refused_iff.2 ⟨hv, hlt⟩
      have hcount := take_count s m
      apply he
      rw [take_out h, if_neg (by simp [hr]), afterS, if_neg (by rw [hcount]; exact hc)]
    · omega
theorem told_taken {c : TNdSet} : ∀ (l : List TNdMessage) (s : TNdState), stateS c s = 0 → s.Count + l.length < 1000000000 → (∀ m ∈ l, m.Kind ≠ 1) → Told c l s (takenS c s l) ∧ stateS c (takenS c s l) = 0 ∧ (takenS c s l).Count ≤ s.Count + l.length := by
  intro l
  induction l with
  | nil =>
    intro s h _ _
    exact ⟨⟨rfl, rfl, fun k _ => ⟨.inl ⟨rfl, rfl⟩, Int.le_refl _, fun t ht => by cases ht⟩⟩, h, by show s.Count ≤ s.Count + ((0 : Nat) : Int); omega⟩
  | cons m l ih =>
    intro s h hn hk
    simp only [List.length_cons] at hn ⊢
    obtain ⟨a, b, d⟩ := told_step (m := m) h (by omega) (hk m (List.mem_cons_self ..))
    obtain ⟨a', b', d'⟩ := ih (tstep c s m) b (by omega) (fun x hx => hk x (List.mem_cons_of_mem _ hx))
    refine ⟨?_, b', by show (takenS c (tstep c s m) l).Count ≤ _; omega⟩
    show Told c (m :: l) s (takenS c (tstep c s m) l)
    refine ⟨by rw [a'.n0, a.n0], by rw [a'.n1, a.n1], fun k hK => ?_⟩
    obtain ⟨x1, x2, x3⟩ := a.k k hK
    obtain ⟨y1, y2, y3⟩ := a'.k k hK
    refine ⟨?_, by omega, fun t ht hv e => ?_⟩
    · rcases y1 with ⟨e1, e2⟩ | ⟨t, ht, hv, e, e1, e2, hlt⟩
      · rcases x1 with ⟨e3, e4⟩ | ⟨t, ht, hv, e, e3, e4, hlt⟩
        · exact .inl ⟨e1.trans e3, e2.trans e4⟩
        · exact .inr ⟨t, by rw [List.mem_singleton.1 ht]; exact List.mem_cons_self .., hv, e, e1.trans e3, e2.trans e4, hlt⟩
      · exact .inr ⟨t, List.mem_cons_of_mem _ ht, hv, e, e1, e2, by omega⟩
    · rcases List.mem_cons.1 ht with rfl | ht
      · have := x3 t (by simp) hv e; omega
      · exact y3 t ht hv e
/-- Two states that were told the same. -/
def Same (a b : TNdState) : Prop := a.Numbers0 = b.Numbers0 ∧ a.Numbers1 = b.Numbers1 ∧ ∀ k, isK k → num a k = num b k ∧ pay a k = pay b k
theorem told_only {c : TNdSet} {l m : List TNdMessage} {s w x : TNdState} (hlm : ∀ t, t ∈ l ↔ t ∈ m)
    (hno : ∀ a ∈ l, ∀ b ∈ l, a.Kind = b.Kind → a.Number = b.Number → a = b) (h1 : Told c l s w) (h2 : Told c m s x) : Same w x := by
  refine ⟨h1.n0.trans h2.n0.symm, h1.n1.trans h2.n1.symm, fun k hK => ?_⟩
  obtain ⟨x1, x2, x3⟩ := h1.k k hK
  obtain ⟨y1, y2, y3⟩ := h2.k k hK
  rcases x1 with ⟨e1, e2⟩ | ⟨t, ht, hv, e, e1, e2, hlt⟩
  · rcases y1 with ⟨e3, e4⟩ | ⟨u, hu, hv, e, e3, e4, hlt⟩
    · exact ⟨e1.trans e3.symm, e2.trans e4.symm⟩
    · have := x3 u ((hlm u).2 hu) hv e; omega
  · rcases y1 with ⟨e3, e4⟩ | ⟨u, hu, hv', e', e3, e4, hlt'⟩
    · have := y3 t ((hlm t).1 ht) hv e; omega
    · have g1 := x3 u ((hlm u).2 hu) hv' e'
      have g2 := y3 t ((hlm t).1 ht) hv e
      have : t = u := hno t ht u ((hlm u).2 hu) (e.trans e'.symm) (by omega)
      subst this
      exact ⟨e1.trans e3.symm, e2.trans e4.symm⟩
theorem taken_again {c : TNdSet} : ∀ (m : List TNdMessage) (w : TNdState), stateS c w = 0 → (∀ k, isK k → ∀ t ∈ m, valid c t → t.Kind = k → t.Number ≤ num w k) → (∀ t ∈ m, t.Kind ≠ 1) → takenS c w m = w := by
  intro m
  induction m with
  | nil => intro w _ _ _; rfl
  | cons t m ih =>
    intro w h hb hk
    have e : tstep c w t = w := by
      unfold tstep
      rw [if_neg]
      intro he
      obtain ⟨hr, _⟩ := take_inv h he
      obtain ⟨hv, hlt⟩ := refused_iff.1 hr
      have hkk := shaped_kind hv.1
      have h1 := hk t (List.mem_cons_self ..)
      have := hb t.Kind (by unfold isK; omega) t (List.mem_cons_self ..) hv rfl
      omega
    show takenS c (tstep c w t) m = w
    rw [e]
    exact ih w h (fun k hK u hu => hb k hK u (List.mem_cons_of_mem _ hu)) (fun u hu => hk u (List.mem_cons_of_mem _ hu))
def toldP (a b : TNdState) : Prop := a.Plan = b.Plan ∧ nums a = nums b ∧ a.Dim = b.Dim ∧ a.Force = b.Force ∧ a.Version = b.Version
theorem same_told {a b : TNdState} (h : Same a b) : toldP a b := by
  obtain ⟨h0, h1, hk⟩ := h
  obtain ⟨n2, p2⟩ := hk 2 (by simp [isK])
  obtain ⟨n3, p3⟩ := hk 3 (by simp [isK])
  obtain ⟨n4, p4⟩ := hk 4 (by simp [isK])
  obtain ⟨n5, p5⟩ := hk 5 (by simp [isK])
  simp [num, pay] at n2 n3 n4 n5 p2 p3 p4 p5
  exact ⟨p2, by simp [nums, h0, h1, n2, n3, n4, n5], p3, p4, p5⟩
/-- What the law says of what the code computes. -/
theorem orders_law {c : TNdSet} {s : TNdState} {l m : List TNdMessage} (h : stateS c s = 0) (hn : s.Count ≤ 999999900) (hl : l.length ≤ 12) (hm : m.length = l.length) (hlm : ∀ t, t ∈ l ↔ t ∈ m)
    (hk : ∀ t ∈ l, t.Kind ≠ 1) (hno : ∀ a ∈ l, ∀ b ∈ l, a.Kind = b.Kind → a.Number = b.Number → a = b) :
    toldP (takenS c s l) (takenS c s m) ∧ takenS c (takenS c s l) m = takenS c s l := by
  obtain ⟨a1, a2, a3⟩ := told_taken (c := c) l s h (by omega) hk
  obtain ⟨b1, b2, b3⟩ := told_taken (c := c) m s h (by omega) (fun t ht => hk t ((hlm t).2 ht))
  exact ⟨same_told (told_only hlm hno a1 b1), taken_again m _ a2 (fun k hK t ht hv e => (a1.k k hK).2.2 t ((hlm t).2 ht) hv e) (fun t ht => hk t ((hlm t).2 ht))⟩
end Go.Proofs.Ytdaanpgdjjodcaa

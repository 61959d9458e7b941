/- What the laws NodeBurns and NodeOrders say of what the code computes, in plain Lean. -/
import Derived.Test.YtdaanpgdjjodcaaM
namespace Go.Proofs.Ytdaanpgdjjodcaa
open Go.RowKit
/-- A state in order, but for its level and its count. -/
structure Pre (c : TNdSet) (s : TNdState) : Prop where
  n0 : s.Numbers0 = 0
  ns : ∀ n ∈ nums s, wildB n = false
  tm : inB s.Time 0 4000000000 = true
  ck : s.Clock = true ∨ s.Time ≤ 0
  pl : planS c s.Plan = 0
  dm : heldB c s.Dim = true
  fc : heldB c s.Force = true
  vs : inB s.Version 0 1000000 = true
theorem state_iff {c : TNdSet} {s : TNdState} : stateS c s = 0 ↔ checkS c = 0 ∧ Pre c s ∧ inB s.Level 0 1000 = true ∧ inB s.Count 0 1000000000 = true := by
  have hb : stateB c s = true ↔ Pre c s ∧ inB s.Level 0 1000 = true ∧ inB s.Count 0 1000000000 = true := by
    simp only [stateB, Bool.and_eq_true, beq_iff_eq, Bool.or_eq_true, decide_eq_true_eq, Bool.not_eq_true', List.any_eq_false, Bool.not_eq_true]
    constructor
    · rintro ⟨⟨⟨⟨⟨⟨⟨⟨⟨a, b⟩, d⟩, e⟩, f⟩, g⟩, h⟩, i⟩, j⟩, k⟩
      exact ⟨⟨a, b, d, e, f, g, h, i⟩, j, k⟩
    · rintro ⟨⟨a, b, d, e, f, g, h, i⟩, j, k⟩
      exact ⟨⟨⟨⟨⟨⟨⟨⟨⟨a, b⟩, d⟩, e⟩, f⟩, g⟩, h⟩, i⟩, j⟩, k⟩
  rw [← hb]
  constructor
  · intro h; exact state_ok h
  · rintro ⟨h1, h2⟩; rw [stateS, if_neg (by simp [h1]), if_pos h2]
theorem held_level {c : TNdSet} {h : TNdHold} (hh : heldB c h = true) : 0 ≤ h.Level ∧ h.Level ≤ 1000 := by
  simp only [heldB, Bool.or_eq_true, beq_iff_eq] at hh
  rcases hh with h1 | h1
  · simp only [hzB, Bool.and_eq_true, beq_iff_eq] at h1; omega
  · unfold holdS at h1
    split at h1
    · cases h1
    · rename_i h2
      simp only [Bool.not_eq_true, Bool.not_eq_false', Bool.and_eq_true] at h2
      exact inB_iff.1 h2.1.1
theorem level_in {c : TNdSet} {s : TNdState} (hc : checkS c = 0) (hd : heldB c s.Dim = true) (hf : heldB c s.Force = true) : 0 ≤ levelS c s ∧ levelS c s ≤ 1000 := by
  obtain ⟨h1, _⟩ := check_ok hc
  have h2 := held_level hd
  have h3 := held_level hf
  unfold levelS
  repeat' split
  all_goals omega
theorem after_state {c : TNdSet} {s : TNdState} (hc : checkS c = 0) (hp : Pre c s) (hn : inB s.Count 0 1000000000 = true) (h : (afterS c s).2 = 0) :
    stateS c (afterS c s).1 = 0 ∧ (afterS c s).1 = { s with Count := s.Count + 1, Level := levelS c s } ∧ (afterS c s).1.Level = levelS c (afterS c s).1 := by
  by_cases hx : s.Count = 1000000000
  · rw [afterS, if_pos hx] at h; cases h
  · rw [afterS, if_neg hx]
    refine ⟨state_iff.2 ⟨hc, ⟨hp.n0, hp.ns, hp.tm, hp.ck, hp.pl, hp.dm, hp.fc, hp.vs⟩, inB_iff.2 (level_in hc hp.dm hp.fc), inB_iff.2 ?_⟩, rfl, rfl⟩
    have := inB_iff.1 hn
    show 0 ≤ s.Count + 1 ∧ s.Count + 1 ≤ 1000000000
    omega
theorem take_parts {c : TNdSet} {s : TNdState} {m : TNdMessage} : refusedS c s m = 0 ↔ shapedB m = true ∧ inB m.Number 1 1000000000 = true ∧ num s m.Kind < m.Number ∧ kindS c m = 0 := by
  unfold refusedS
  by_cases h1 : shapedB m = true
  · by_cases h2 : inB m.Number 1 1000000000 = true
    · by_cases h3 : m.Number ≤ num s m.Kind
      · simp [h1, h2, h3]; omega
      · simp [h1, h2, h3]; omega
    · simp [h1, h2]
  · simp [h1]
theorem take_pre {c : TNdSet} {s : TNdState} {m : TNdMessage} (hp : Pre c s) (hr : refusedS c s m = 0) : Pre c (changeS (setNum s m.Kind m.Number) m) := by
  obtain ⟨h1, h2, h3, h4⟩ := take_parts.1 hr
  have hk := shaped_kind h1
  have hw : wildB m.Number = false := by
    have := inB_iff.1 h2
    simp only [wildB, Bool.not_eq_false']
    exact inB_iff.2 (by omega)
  have h0 := hp.ns
  simp only [nums, List.mem_cons, List.not_mem_nil, or_false] at h0
  rcases (by omega : m.Kind = 1 ∨ m.Kind = 2 ∨ m.Kind = 3 ∨ m.Kind = 4 ∨ m.Kind = 5) with hk | hk | hk | hk | hk
  · have e : changeS (setNum s m.Kind m.Number) m = { s with Numbers1 := m.Number, Clock := true, Time := m.Time } := by simp [changeS, setNum, hk]
    rw [e]
    have h5 : inB m.Time 0 4000000000 = true := by
      rw [kindS, if_pos hk] at h4
      split at h4
      · assumption
      · cases h4
    refine ⟨hp.n0, ?_, h5, .inl rfl, hp.pl, hp.dm, hp.fc, hp.vs⟩
    intro n hn
    simp only [nums, List.mem_cons, List.not_mem_nil, or_false] at hn
    rcases hn with rfl | rfl | rfl | rfl | rfl | rfl
    all_goals first | exact hw | exact h0 _ (by simp)
  · have e : changeS (setNum s m.Kind m.Number) m = { s with Numbers2 := m.Number, Plan := m.Plan } := by simp [changeS, setNum, hk]
    rw [e]
    have h5 : planS c m.Plan = 0 := by rwa [kindS, if_neg (by omega), if_pos hk] at h4
    refine ⟨hp.n0, ?_, hp.tm, hp.ck, h5, hp.dm, hp.fc, hp.vs⟩
    intro n hn
    simp only [nums, List.mem_cons, List.not_mem_nil, or_false] at hn
    rcases hn with rfl | rfl | rfl | rfl | rfl | rfl
    all_goals first | exact hw | exact h0 _ (by simp)
  · have e : changeS (setNum s m.Kind m.Number) m = { s with Numbers3 := m.Number, Dim := m.Hold } := by simp [changeS, setNum, hk]
    rw [e]
    have h5 : holdS c m.Hold = 0 := by rwa [kindS, if_neg (by omega), if_neg (by omega), if_neg (by omega)] at h4
    refine ⟨hp.n0, ?_, hp.tm, hp.ck, hp.pl, by simp [heldB, h5], hp.fc, hp.vs⟩
    intro n hn
    simp only [nums, List.mem_cons, List.not_mem_nil, or_false] at hn
    rcases hn with rfl | rfl | rfl | rfl | rfl | rfl
    all_goals first | exact hw | exact h0 _ (by simp)
  · have e : changeS (setNum s m.Kind m.Number) m = { s with Numbers4 := m.Number, Force := m.Hold } := by simp [changeS, setNum, hk]
    rw [e]
    have h5 : holdS c m.Hold = 0 := by rwa [kindS, if_neg (by omega), if_neg (by omega), if_neg (by omega)] at h4
    refine ⟨hp.n0, ?_, hp.tm, hp.ck, hp.pl, hp.dm, by simp [heldB, h5], hp.vs⟩
    intro n hn
    simp only [nums, List.mem_cons, List.not_mem_nil, or_false] at hn
    rcases hn with rfl | rfl | rfl | rfl | rfl | rfl
    all_goals first | exact hw | exact h0 _ (by simp)
  · have e : changeS (setNum s m.Kind m.Number) m = { s with Numbers5 := m.Number, Version := m.Version } := by simp [changeS, setNum, hk]
    rw [e]
    have h5 : inB m.Version 1 1000000 = true := by
      rw [kindS, if_neg (by omega), if_neg (by omega), if_pos hk] at h4
      split at h4
      · assumption
      · cases h4
    have h5 := inB_iff.1 h5
    refine ⟨hp.n0, ?_, hp.tm, hp.ck, hp.pl, hp.dm, hp.fc, inB_iff.2 (by show 0 ≤ m.Version ∧ m.Version ≤ 1000000; omega)⟩
    intro n hn
    simp only [nums, List.mem_cons, List.not_mem_nil, or_false] at hn
    rcases hn with rfl | rfl | rfl | rfl | rfl | rfl
    all_goals first | exact hw | exact h0 _ (by simp)
theorem tick_pre {c : TNdSet} {s : TNdState} {sec li : Int} (hp : Pre c s) (ht : tickB s sec li = true) : Pre c (tickC c s sec li) := by
  simp only [tickB, Bool.and_eq_true, Bool.not_eq_true', Bool.and_eq_false_iff, decide_eq_false_iff_not] at ht
  obtain ⟨⟨h1, _⟩, h3⟩ := ht
  have h1 := inB_iff.1 h1
  have h2 := inB_iff.1 hp.tm
  refine ⟨hp.n0, hp.ns, inB_iff.2 ?_, ?_, hp.pl, hp.dm, hp.fc, hp.vs⟩
  · show 0 ≤ (if s.Clock = true then s.Time + sec else s.Time) ∧ (if s.Clock = true then s.Time + sec else s.Time) ≤ 4000000000
    split
    · rename_i h
      rcases h3 with h3 | h3
      · rw [h] at h3; cases h3
      · omega
    · exact h2
  · show s.Clock = true ∨ (if s.Clock = true then s.Time + sec else s.Time) ≤ 0
    rcases hp.ck with h | h
    · exact .inl h
    · by_cases hc : s.Clock = true
      · exact .inl hc
      · rw [if_neg hc]; exact .inr h
theorem cut_pre {c : TNdSet} {s : TNdState} (hp : Pre c s) : Pre c (cutC s) := ⟨hp.n0, hp.ns, rfl, .inr (Int.le_refl 0), hp.pl, hp.dm, hp.fc, hp.vs⟩
theorem cut_count (s : TNdState) : (cutC s).Count = s.Count := rfl
/-- A state in order whose level is the one that it should have. -/
def Inv (c : TNdSet) (s : TNdState) : Prop := stateS c s = 0 ∧ s.Level = levelS c s
theorem take_out {c : TNdSet} {s : TNdState} {m : TNdMessage} (h : stateS c s = 0) : takeS c s m = if refusedS c s m ≠ 0 then (.zero, refusedS c s m) else afterS c (changeS (setNum s m.Kind m.Number) m) := by
  rw [takeS, if_neg (by simp [h])]
theorem take_inv {c : TNdSet} {s : TNdState} {m : TNdMessage} (h : stateS c s = 0) (he : (takeS c s m).2 = 0) : refusedS c s m = 0 ∧ Inv c (takeS c s m).1 ∧ (takeS c s m).1 = { changeS (setNum s m.Kind m.Number) m with Count := s.Count + 1, Level := levelS c (changeS (setNum s m.Kind m.Number) m) } := by
  obtain ⟨hc, hp, _, hn⟩ := state_iff.1 h
  rw [take_out h] at he ⊢
  by_cases hr : refusedS c s m = 0
  · rw [if_neg (by simp [hr])] at he ⊢
    have hcount := take_count s m
    obtain ⟨a1, a2, a3⟩ := after_state hc (take_pre hp hr) (by rw [hcount]; exact hn) he
    exact ⟨hr, ⟨a1, a3⟩, by rw [a2, hcount]⟩
  · rw [if_pos hr] at he; exact absurd he hr
theorem ev_inv {c : TNdSet} {s : TNdState} {x : TNdEvent} (h : Inv c s) : Inv c (stepS c s x) := by
  unfold stepS
  split
  case isFalse => exact h
  rename_i he
  obtain ⟨hc, hp, _, hn⟩ := state_iff.1 h.1
  unfold evS at he ⊢
  split
  · rename_i hk
    rw [if_pos hk] at he
    exact (take_inv h.1 he).2.1
  rename_i hk
  rw [if_neg hk] at he
  split
  · rename_i hk2
    rw [if_pos hk2] at he
    rw [tickS, if_neg (by simp [h.1])] at he ⊢
    cases ht : tickB s x.Seconds x.Light with
    | true =>
      rw [ht] at he
      simp only [Bool.not_true, Bool.false_eq_true, if_false] at he ⊢
      obtain ⟨a1, a2, a3⟩ := after_state hc (tick_pre hp ht) hn he
      exact ⟨a1, a3⟩
    | false => rw [ht] at he; cases he
  rename_i hk2
  rw [if_neg hk2] at he
  split
  · rename_i hk3
    rw [if_pos hk3] at he
    rw [cutS, if_neg (by simp [h.1])] at he ⊢
    obtain ⟨a1, a2, a3⟩ := after_state hc (cut_pre hp) hn he
    exact ⟨a1, a3⟩
  · rename_i hk3
    rw [if_neg hk3] at he; cases he
theorem new_inv {c : TNdSet} (h : checkS c = 0) : Inv c (newS c).1 := by
  rw [newS, if_neg (by simp [h])]
  refine ⟨state_iff.2 ⟨h, ⟨rfl, ?_, rfl, .inr (Int.le_refl 0), rfl, rfl, rfl, rfl⟩, rfl, rfl⟩, rfl⟩
  intro n hn
  simp only [nums, TNdState.zero, List.mem_cons, List.not_mem_nil, or_false] at hn
  rcases hn with rfl | rfl | rfl | rfl | rfl | rfl
  all_goals rfl
def coreP (c : TNdSet) (time : Int) : Prop := ∃ day : Int, (day = time / 86400 ∨ day = time / 86400 - 1) ∧ 0 ≤ day ∧ c.Core.On ≤ time - day * 86400 ∧ time - day * 86400 < c.Core.Off
def mustP (c : TNdSet) (s : TNdState) : Prop := (s.Clock = true ∧ coreP c s.Time) ∨ (s.Broken = false ∧ s.Dark = true) ∨ (s.Broken = true ∧ s.Clock = false)
theorem must_dark {c : TNdSet} {s : TNdState} (h : stateS c s = 0) (hm : mustP c s) : darkB c s = true := by
  unfold darkB
  rcases hm with ⟨hc, day, hd, h0, h1, h2⟩ | ⟨h1, h2⟩ | ⟨h1, h2⟩
  · have hk := (kept_ok h day).2
    simp only [covB, Bool.and_eq_true, decide_eq_true_eq] at hk
    have hh : hasB c s day = true := by
      simp only [hasB, Bool.and_eq_true, decide_eq_true_eq]
      exact ⟨h0, by omega, by omega⟩
    have : clockB c s = true := by
      rcases hd with rfl | rfl
      · simp [clockB, hc, hh]
      · simp [clockB, hc, hh]
    simp [this]
  · simp [h1, h2]
  · simp [h1, h2]
theorem burns_law {c : TNdSet} {s : TNdState} (h : Inv c s) : (mustP c s → c.Floor ≤ s.Level) ∧ 0 ≤ s.Level ∧ s.Level ≤ 1000 := by
  obtain ⟨hc, _, hl, _⟩ := state_iff.1 h.1
  have hl := inB_iff.1 hl
  refine ⟨fun hm => ?_, hl⟩
  rw [h.2]
  exact level_dark (check_ok hc).1.2 (must_dark h.1 hm)
end Go.Proofs.Ytdaanpgdjjodcaa

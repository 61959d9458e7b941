/- What an operation looks at, and what it changes. -/
import Derived.Test.YtblebiafhhhflaaGreatD1
namespace Go.Proofs.YtblebiafhhhflaaGreat
open Go.RowKit

def St.upd (σ : St) (d : Option Nat) (v : AV) (U : List (Nat × Option Bx)) : St := { sl := (σ.put d v).sl, bx := U.foldl (fun l e => l.set e.1 e.2) σ.bx }
def FreshP (n d : Nat) (σ : St) : Prop := (∀ t, t ≠ d → n + d ∉ (σ.sl.getD t .undef).refs) ∧ ∀ b x, b ≠ n + d → σ.bx.getD b none = some x → n + d ∉ x.refs
structure Agree (ops : Array Oper) (o : Oper) (R : List Nat) (σ τ : St) : Prop where
  sl : ∀ t ∈ o.looksAt ops, σ.sl.getD t .undef = τ.sl.getD t .undef
  bx : ∀ b ∈ R, σ.bx.getD b none = τ.bx.getD b none
  l1 : σ.sl.length = τ.sl.length
  l2 : σ.bx.length = τ.bx.length

theorem refsL_mem {l : List AV} {b : Nat} (h : b ∈ AV.refsL l) : ∃ j, j < l.length ∧ b ∈ (l.getD j .undef).refs := by
  induction l with
  | nil => simp [AV.refsL] at h
  | cons x r ih =>
    simp only [AV.refsL, List.mem_append] at h
    rcases h with h | h
    · exact ⟨0, by simp, h⟩
    · obtain ⟨j, h1, h2⟩ := ih h; exact ⟨j + 1, by simpa using h1, by simpa using h2⟩
theorem freshB_of {n d : Nat} {σ : St} (h : FreshP n d σ) : freshB n d σ = true := by
  simp only [freshB, noRefs, Bool.and_eq_true, Bool.not_eq_true', List.contains_eq_mem, decide_eq_false_iff_not]
  refine ⟨fun hb => ?_, List.all_eq_true.2 fun y hy => ?_⟩
  · obtain ⟨t, h1, h2⟩ := refsL_mem hb
    rw [set_getD] at h2
    by_cases ht : t = d
    · rw [List.length_set] at h1
      rw [if_pos ⟨ht, by omega⟩] at h2; simp [AV.refs] at h2
    · rw [if_neg (by omega)] at h2; exact h.1 t ht h2
  · cases y with
    | none => rfl
    | some x =>
      obtain ⟨b, hb⟩ := List.getElem?_of_mem hy
      have hg : (σ.bx.set (n + d) none).getD b none = some x := by simp [List.getD, hb]
      rw [box_set] at hg
      split at hg
      · cases hg
      · rename_i hnb
        by_cases hbd : b = n + d
        · have : ¬ b < σ.bx.length := fun hl => hnb ⟨hbd, by omega⟩
          simp [List.getD, List.getElem?_eq_none (by omega : σ.bx.length ≤ b)] at hg
        · have := h.2 b x hbd hg
          simpa using this
theorem freshB_to {n d : Nat} {σ : St} (h : freshB n d σ = true) : FreshP n d σ := by
  refine ⟨fun t ht => ?_, fun b x hb hx => ?_⟩
  · have := noRefs_sl h t
    rw [set_getD, if_neg (fun e => ht e.1)] at this
    exact this
  · have h2 : ({ sl := σ.sl.set d .undef, bx := σ.bx.set (n + d) none } : St).bx.getD b none = some x := by
      rw [box_set, if_neg (fun e => hb e.1), hx]
    exact noRefs_bx h h2

theorem popA_congr {P : Program} {e e' : Operand → AV} {op : Op} (h : ∀ x ∈ op.operands, e x = e' x) : popA P e op = popA P e' op := by
  have l (xs : Array Operand) (h : ∀ x ∈ xs, e x = e' x) : xs.toList.map e = xs.toList.map e' := List.map_congr_left fun x hx => h x (by simpa using hx)
  have prs (ps : Array (Nat × Operand)) (h : ∀ x ∈ (ps.map (·.2)), e x = e' x) : (ps.toList.map fun p => (p.1, e p.2)) = (ps.toList.map fun p => (p.1, e' p.2)) :=
    List.map_congr_left fun p hp => by
      obtain ⟨i, x⟩ := p
      simp only
      rw [h x (Array.mem_map.2 ⟨(i, x), by simpa using hp, rfl⟩)]
  cases op <;> simp only [Op.operands] at h
  case build t ps => simp only [popA]; rw [prs ps fun x hx => h x (by simpa using hx)]
  case makeFunc f first caps =>
    cases f with
    | func f => simp only [popA]; rw [l first fun x hx => h x (by simp [hx]), l caps fun x hx => h x (by simp [hx])]
    | _ => rfl
  case call c => simp only [popA]; rw [l c.args fun x hx => h x (by simp [Call.operands, hx])]
  case unOp op t x => cases op <;> simp_all [popA]
  case binOp op t x y yt => cases op <;> simp_all [popA]
  case slice t x lo hi mx => rfl
  case select => rfl
  all_goals first | rfl | (simp_all [popA]; done)
end Go.Proofs.YtblebiafhhhflaaGreat

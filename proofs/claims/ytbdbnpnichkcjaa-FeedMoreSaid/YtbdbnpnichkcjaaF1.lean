/- Calls of functions that return a slice of new memory. -/
import Derived.Test.YtbdbnpnichkcjaaR13
namespace Go.Proofs.Ytbdbnpnichkcjaa
open Go.RowKit

section
variable {frs : Ways} {il : InlF} {ds : List Deferred} {n : Nat} {μ0 : Lay} {ρ0 : RO} {w0 : World} {ρ : RO} {μ : Lay} {σ : St} {a : Act} {w : World}

theorem callF_spec {P : Program} {f : FuncId} {args : List AV} {vs : Array Value} {d : Option Nat} {K : St → Prop} (hs : Sat ds n μ0 ρ0 w0 ρ μ σ a w) (hargs : Rvs ρ (some μ) args vs) (h : callF P (SpecsOf P frs il) n f args d σ K) :
    (callFunc f vs).run P w = .ok (.enter f vs) w ∧ Calls P f vs w (fun e w' => ∃ cv, e = .returned cv ∧ ∃ ρ' μ' σ', Sat ds n μ0 ρ0 w0 ρ' μ' σ' (a.put d cv) w' ∧ K σ') := by
  unfold callF at h
  split at h
  case h_2 => exact h.elim
  rename_i d e he
  split at h
  case isFalse => exact h.elim
  rename_i htree
  obtain ⟨es, ⟨henter, hspec⟩, hK⟩ := h
  refine ⟨henter vs w, ?_⟩
  have hargs' : Rvs ρ none (AV.normL args) vs := by
    refine ⟨by rw [normL_length]; exact hargs.1, fun j => ?_⟩
    rw [normL_getD]
    exact ((hargs.2 j).of_tree (treeL_getD htree j)).norm
  refine (hspec ρ w vs hs.ro hargs').mono fun en w' hg => ?_
  obtain ⟨⟨ρ', B, κ, cv, rfl, gle, gro, gnew, gv, gB, gBs, gl, gblk⟩, gframe, gsize, gos, gtape, gout⟩ := hg
  refine ⟨cv, rfl, ρ', updL μ (n + d) (B, κ), ?_⟩
  have hs' := hs.moreRO gle gro gnew gframe gsize gos gtape gout
  simp only [mkBox] at hK
  split at hK
  case isFalse => exact hK.elim
  rename_i hc
  simp only [Bool.and_eq_true, decide_eq_true_eq] at hc
  obtain ⟨⟨⟨⟨c0, c1⟩, c2⟩, c3⟩, c4⟩ := hc
  refine ⟨_, ?_, hK⟩
  have hold : ∀ b cs, σ.box b = some cs → (μ b).2 ≠ 0 → (μ b).1 < w.heap.size := by
    intro b cs hb hk
    obtain ⟨y, hy, rfl⟩ := box_some hb
    rcases (hs.box b y hy).blk with h0 | ⟨o, h, _⟩
    · exact absurd h0 hk
    · exact (Array.getElem?_eq_some_iff.1 h).1
  have hp : Rv ρ' (some (updL μ (n + d) (B, κ))) (.aslc (n + d) 0 es.length (P.cellsOf e) (isAggT P e)) cv := by
    have h1 := gv (isAggT P e)
    have hu : updL μ (n + d) (B, κ) (n + d) = (B, κ) := by simp [updL]
    generalize hm : (some fun _ => (B, κ) : Option Lay) = m at h1
    generalize hx : (AV.aslc 0 0 es.length (P.cellsOf e) (isAggT P e)) = x at h1
    cases h1 with
    | aslc m b off len esz ag cap hcap hr =>
      cases hm; cases hx
      have := Rv.aslc (ρ := ρ') (updL μ (n + d) (B, κ)) (n + d) 0 es.length (P.cellsOf e) (isAggT P e) cap hcap (by rw [hu]; exact hr)
      rw [hu] at this
      exact this
    | aslc0 m b esz ag p =>
      cases hm
      simp only [AV.aslc.injEq] at hx
      rw [hx.2.2.1]
      exact .aslc0 _ _ _ _ p
    | _ => cases hx
  rcases gblk with h0 | ⟨c, ty, g1, g2, g3⟩
  · exact hs'.newBox (o := .cells #[] e (0, 0)) c1 (by simp [Bx.refs]) c3 c4 (SameBut.refl B w') (.inl h0) gl (fun b cs hb hbox hk he => by have := hold b cs hbox hk; omega) gB (.inl (Nat.le_trans hs.size gBs)) hp
  · exact hs'.newBox (o := .cells c ty (0, 0)) c1 (by simp [Bx.refs]) c3 c4 (SameBut.refl B w') (.inr ⟨g1, .cells (mapL_arr rfl _) g2 (by unfold lev; rw [if_pos rfl]; exact g3)⟩) gl (fun b cs hb hbox hk he => by have := hold b cs hbox hk; omega) gB (.inl (Nat.le_trans hs.size gBs)) hp
end
end Go.Proofs.Ytbdbnpnichkcjaa

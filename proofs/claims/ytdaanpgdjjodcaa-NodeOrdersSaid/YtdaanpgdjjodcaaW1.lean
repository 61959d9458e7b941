/- Code: what the evaluator says of it holds of the machine's run. -/
import Derived.Test.YtdaanpgdjjodcaaL3
namespace Go.Proofs.Ytdaanpgdjjodcaa
open Go.RowKit

section
variable {frs : Ways} {n : Nat} {μ0 : Lay} {ρ0 : RO} {w0 : World} {ρ : RO} {μ : Lay} {σ : St} {a : Act} {w : World}

def Ex.to : Ex → Exit
  | .normal => .normal
  | .exit id => .exit id
  | .ret => .ret

theorem Sat.freeze (hs : Sat n μ0 ρ0 w0 ρ μ σ a w) {t b : Nat} {off len esz : Nat} {ag : Bool} {cs : List AV} (hv : σ.sl.getD t .undef = .aslc b off len esz ag) (hb : σ.boxN b = some cs) (hn : n ≤ b)
    (hok : okA σ.boxN (b, off + len * esz, esz, ag)) : ∃ ρ', Sat n μ0 ρ0 w0 ρ' μ ⟨σ.sl.set t (.slc 3 (chunks esz ag len (cs.drop off))), σ.bx.set b none⟩ a w := by
  classical
  obtain ⟨x, hx, -⟩ := boxN_some hb
  let ρc : RO := fun k => if (μ b).2 ≠ 0 ∧ (μ b).1 = k then w.heap[k]? else ρ k
  have hX : ∀ k, (μ b).2 ≠ 0 ∧ (μ b).1 = k → ρ k = none := by
    rintro k ⟨hk, rfl⟩
    exact hs.sep b _ (box_bx hx) hk
  have hlec : ρ.le ρc := by
    intro k o hk
    show (if _ then _ else ρ k) = _
    rw [if_neg (fun h => by rw [hX k h] at hk; cases hk)]; exact hk
  have hget : ∀ b' x', (σ.bx.set b none).getD b' none = some x' → b' ≠ b ∧ σ.bx.getD b' none = some x' := by
    intro b' x' h
    by_cases hbb : b' = b
    · subst hbb
      exfalso
      simp only [List.getD, List.getElem?_set_self'] at h
      cases hg : σ.bx[b']? with
      | none => simp [hg] at h
      | some y => simp [hg] at h
    · refine ⟨hbb, ?_⟩
      simpa only [List.getD, List.getElem?_set_ne (Ne.symm hbb)] using h
  have hnone : (σ.bx.set b none).getD b none = none := by
    cases h : (σ.bx.set b none).getD b none with
    | none => rfl
    | some y => exact absurd rfl (hget b y h).1
  have hsat := hs.called (B := []) (bx' := σ.bx.set b none) (ρn := ρc) (w' := w)
    (fun b' x' h => .inl ⟨by simp, (hget b' x' h).2⟩) hlec ?_ ?_ (fun _ _ _ => rfl) (Nat.le_refl _) rfl rfl rfl (by simp)
  · refine ⟨ρc, { hsat with sz := by simpa using hsat.sz, sl := fun i => ?_ }⟩
    show Rv ρc (some μ) ((σ.sl.set t _).getD i .undef) _
    rw [set_getD]
    split
    · rename_i h
      rw [h.1]
      have := hs.sl t
      rw [hv] at this
      have hsn := hs.snap (ρc := ρc) hlec (snaps := [b]) (fun b' x' hb' hx' hk => ?_) this (fun q hq => ?_)
      · simpa only [AV.snap, hb] using hsn
      · rw [List.mem_singleton.1 hb'] at *
        show (if _ then _ else _) = _
        rw [if_pos ⟨hk, rfl⟩]
      · simp only [AV.aslcs, List.mem_singleton] at hq
        subst hq
        exact ⟨List.mem_singleton.2 rfl, hok⟩
    · exact hsat.sl i
  · intro k o hk
    simp only [ρc] at hk
    split at hk
    · exact hk
    · exact hs.ro k o hk
  · intro k o hk h0
    simp only [ρc] at hk
    split at hk
    · rename_i h
      exact .inr ⟨b, x, hx, h.1, h.2, by simp, hnone, hn⟩
    · rw [h0] at hk; cases hk
theorem freezeK_spec : ∀ {ts : List Nat} {ρ : RO} {σ : St} {K : St → Prop}, Sat n μ0 ρ0 w0 ρ μ σ a w → freezeK n ts σ K → ∃ ρ' σ', Sat n μ0 ρ0 w0 ρ' μ σ' a w ∧ K σ' := by
  intro ts
  induction ts with
  | nil => intro ρ σ K hs h; exact ⟨ρ, σ, hs, h⟩
  | cons t r ih =>
    intro ρ σ K hs h
    simp only [freezeK, freeze1] at h
    split at h
    · rename_i hv
      split at h
      · rename_i hb
        split at h
        · rename_i hn
          obtain ⟨hok, h⟩ := withOK_elim h
          obtain ⟨ρ', hs'⟩ := hs.freeze hv hb hn (hok _ (List.mem_singleton.2 rfl))
          exact ih hs' h
        · exact h.elim
      · exact h.elim
    · exact ih hs h
theorem awp_spec {P : Program} (hm : P.follows .mixedOrders = true) {keep : Ctl} : ∀ (c : Code) (K : Ex → St → Prop) (Q : Exit → Act → World → Prop) (ρ : RO) (μ : Lay) (σ : St) (a : Act) (w : World), (∀ e a w, At n μ0 ρ0 w0 (K e) a w → Q e.to a w) →
    Sat n μ0 ρ0 w0 ρ μ σ a w → awp P (SpecsOf P frs) n keep c σ K → c.wp P Q a w := by
  intro c
  induction c with
  | skip => intro K Q ρ μ σ a w hQ hs h; exact wp_skip (hQ .normal a w ⟨ρ, μ, σ, hs, h⟩)
  | region id ops draw =>
    intro K Q ρ μ σ a w hQ hs h
    cases draw with
    | true =>
      simp only [awp, cleanK_eq] at h
      obtain ⟨ρ, σ, hs, h⟩ := freezeK_spec hs h
      split at h
      · rename_i hfr
        rw [Bool.and_eq_true] at hfr
        exact draw_spec hm (fun a w ⟨ρ, μ, σ, hs, h⟩ => hQ .normal a w ⟨ρ, μ, _, hs.clean keep.keep, h⟩) hs hfr.1 hfr.2 h
      · exact h.elim
    | false =>
      simp only [awp, cleanK_eq] at h
      obtain ⟨ρ, σ, hs, h⟩ := freezeK_spec hs h
      refine wp_region ?_
      have := aops_spec (P := P) (ops := ops) (K := fun σ => K .normal (clean keep.keep σ)) (Q := Q) (fun a w ⟨ρ, μ, σ, hs, h⟩ => hQ .normal a w ⟨ρ, μ, _, hs.clean keep.keep, h⟩) ops.toList 0 ρ μ σ a w rfl hs h
      rw [List.range_eq_range']
      simpa using this
  | seq x y ihx ihy =>
    intro K Q ρ μ σ a w hQ hs h
    simp only [awp] at h
    split at h
    · refine wp_seq (ihx _ _ ρ μ σ a w ?_ hs (joinK_seq h))
      rintro e a w ⟨ρ, μ, σ, hs, h⟩
      cases e with
      | normal =>
        obtain ⟨σ', hw, h⟩ := h
        obtain ⟨μ', hs'⟩ := hs.weaken hw
        exact ihy K Q ρ μ' σ' a w hQ hs' h
      | exit id => exact hQ (.exit id) a w ⟨ρ, μ, σ, hs, h⟩
      | ret => exact hQ .ret a w ⟨ρ, μ, σ, hs, h⟩
    refine wp_seq (ihx _ _ ρ μ σ a w ?_ hs h)
    rintro e a w ⟨ρ, μ, σ, hs, h⟩
    cases e with
    | normal => exact ihy K Q ρ μ σ a w hQ hs h
    | exit id => exact hQ (.exit id) a w ⟨ρ, μ, σ, hs, h⟩
    | ret => exact hQ .ret a w ⟨ρ, μ, σ, hs, h⟩
  | cond c x y ihx ihy =>
    intro K Q ρ μ σ a w hQ hs h
    have hc := hs.eval c
    simp only [awp] at h
    split at h
    · rename_i hh; rw [hh] at hc
      generalize hcc : a.eval c = u at hc
      cases hc
      exact wp_cond_true hcc (ihx K Q ρ μ σ a w hQ hs h)
    · rename_i hh; rw [hh] at hc
      generalize hcc : a.eval c = u at hc
      cases hc
      exact wp_cond_false hcc (ihy K Q ρ μ σ a w hQ hs h)
    · rename_i b hh; rw [hh] at hc
      generalize hcc : a.eval c = u at hc
      cases hc
      exact wp_cond_split hcc (fun hb => ihx K Q ρ μ σ a w hQ hs (h.1 hb)) (fun hb => ihy K Q ρ μ σ a w hQ hs (h.2 hb))
    · exact h.elim
  | block id b ih =>
    intro K Q ρ μ σ a w hQ hs h
    refine wp_block (ih _ _ ρ μ σ a w ?_ hs h)
    rintro e a w ⟨ρ, μ, σ, hs, h⟩
    cases e with
    | normal => exact hQ .normal a w ⟨ρ, μ, σ, hs, h⟩
    | exit i =>
      simp only [Ex.to, Exit.inBlock]
      split
      · rename_i hi
        simp only [hi, if_true] at h
        exact hQ .normal a w ⟨ρ, μ, σ, hs, h⟩
      · rename_i hi
        simp only [hi, if_false] at h
        exact hQ (.exit i) a w ⟨ρ, μ, σ, hs, h⟩
    | ret => exact hQ .ret a w ⟨ρ, μ, σ, hs, h⟩
  | loop b ih =>
    intro K Q ρ μ σ a w hQ hs h
    simp only [awp] at h
    split at h
    case h_2 => exact h.elim
    obtain ⟨σ', hw, m, h⟩ := loopK_iter h
    obtain ⟨μ', hs'⟩ := hs.weaken hw
    refine wp_loop_rounds m ?_
    clear hw hs
    induction m generalizing ρ μ' σ' a w with
    | zero => exact h.elim
    | succ m ihm =>
      rw [rounds_succ]
      refine ih _ _ ρ μ' σ' a w ?_ hs' h
      rintro e a w ⟨ρ, μ, σ, hs, h⟩
      cases e with
      | normal =>
        obtain ⟨σ'', hw, h⟩ := h
        obtain ⟨μ'', hs⟩ := hs.weaken hw
        exact ihm (ρ := ρ) (a := a) (w := w) (σ' := σ'') (μ' := μ'') (h := h) (hs' := hs)
      | exit i => exact hQ (.exit i) a w ⟨ρ, μ, σ, hs, h⟩
      | ret => exact hQ .ret a w ⟨ρ, μ, σ, hs, h⟩
  | exit id => intro K Q ρ μ σ a w hQ hs h; exact wp_exit (hQ (.exit id) a w ⟨ρ, μ, σ, hs, h⟩)
  | ret => intro K Q ρ μ σ a w hQ hs h; exact wp_ret (hQ .ret a w ⟨ρ, μ, σ, hs, h⟩)
  | rangeFunc f ps x y _ _ => intro K Q ρ μ σ a w hQ hs h; exact h.elim
  | scope b _ => intro K Q ρ μ σ a w hQ hs h; exact h.elim
  | label l => intro K Q ρ μ σ a w hQ hs h; exact h.elim
  | goto l => intro K Q ρ μ σ a w hQ hs h; exact h.elim
  | refuse s => intro K Q ρ μ σ a w hQ hs h; exact h.elim
end
end Go.Proofs.Ytdaanpgdjjodcaa

/- Loops by what holds at their heads; paths that join. -/
import Derived.Test.YtdaanpgdjjodcaaL2
namespace Go.Proofs.Ytdaanpgdjjodcaa
open Go.RowKit

/-- What code may write, or forget. -/
def CD (ctl : Ctl) (c : Code) (t : Nat) : Prop := t ∈ ctl.dsts c ∨ t ∉ ctl.keep
theorem dsts_seq {ctl : Ctl} {a b : Code} {t : Nat} : (t ∈ ctl.dsts a → t ∈ dstsC a ++ dstsC b ++ ctl.fz.map (·.2)) ∧ (t ∈ ctl.dsts b → t ∈ dstsC a ++ dstsC b ++ ctl.fz.map (·.2)) := by
  simp only [Ctl.dsts, List.mem_append]
  exact ⟨fun h => h.elim (fun h => .inl (.inl h)) .inr, fun h => h.elim (fun h => .inl (.inr h)) .inr⟩
theorem clean_fr (keep : List Nat) (σ : St) : FrD (fun t => t ∉ keep) σ (clean keep σ) := by
  refine ⟨by simp [clean], fun t ht => ?_⟩
  simp only [clean]
  rw [mapIdx_getD]
  split
  · rw [if_pos (by simpa using ht)]
  · rename_i hl; rw [getD_le (by omega)]

section
variable {P : Program} {S : Specs} {n : Nat}
theorem headSt_fr {keep D : List Nat} {p : Pat} {σ : St} {gs : List AV} {ls : List (List AV)} {bs : List AV} (hp : patIn D p = true) :
    FrD (fun t => t ∈ D ∨ t ∉ keep) σ (headSt P n keep D p σ gs ls bs) := by
  refine ⟨by simp [headSt], fun t ht => ?_⟩
  simp only [not_or, Classical.not_not] at ht
  simp only [headSt]
  rw [mapIdx_getD]
  split
  case isFalse => rename_i hl; rw [getD_le (by omega)]
  rw [if_pos (by simpa using ht.2)]
  split
  · rename_i v hv
    exfalso
    unfold patIn at hp
    rw [List.all_eq_true] at hp
    have : t ∈ p.gen.map (·.1) ++ p.app.map (·.1) := by
      rcases List.mem_append.1 (lookup_mem hv) with hv | hv
      · exact List.mem_append_left _ (List.of_mem_zip hv).1
      · obtain ⟨q, hq, he⟩ := zipWith_mem hv
        simp only [Prod.mk.injEq] at he
        exact List.mem_append_right _ (List.mem_map.2 ⟨q.1, (List.of_mem_zip hq).1, he.1.symm⟩)
    have := hp t this
    simp only [List.contains_iff_mem] at this
    exact ht.1 this
  · rw [if_neg (by simpa using ht.1)]
theorem headK_mono {keep D : List Nat} {p : Pat} {σ : St} {C C' : List AV → St → Prop} (h : ∀ gs ls bs, C (headV gs ls bs) (headSt P n keep D p σ gs ls bs) → C' (headV gs ls bs) (headSt P n keep D p σ gs ls bs)) (hk : headK P n keep D p σ C) : headK P n keep D p σ C' :=
  allL_mono _ (fun _ hk => allS_mono _ (fun _ hk => allL_mono _ (fun _ hk => h _ _ _ hk) hk) hk) hk
theorem headK_fit {keep D : List Nat} {p : Pat} {σ : St} {C : List AV → St → Prop} {gs : List AV} {ls : List (List AV)} {bs : List AV} (h1 : fitL (p.gen.map (·.2)) gs = true) (h2 : ls.length = p.app.length) (h3 : fitL (p.bgen.map (·.2)) bs = true)
    (hk : headK P n keep D p σ C) : C (headV gs ls bs) (headSt P n keep D p σ gs ls bs) := by
  unfold headK at hk
  have h4 := allL_fit _ _ h1 hk
  have h5 := allS_fit _ _ h2 h4
  exact allL_fit _ _ h3 h5

theorem freeze1_mf {t : Nat} {σ : St} {K K' : St → Prop} (h : ∀ σ', FrD (fun i => i = t) σ σ' → K σ' → K' σ') (hk : freeze1 n t σ K) : freeze1 n t σ K' := by
  unfold freeze1 at hk ⊢
  split at hk
  · rename_i hs
    (try simp only [hs])
    split at hk
    · rename_i hb
      (try simp only [hb])
      split at hk
      · rename_i hn
        rw [if_pos hn]
        refine withOK_mono (fun hk => h _ ⟨by simp, fun i hi => ?_⟩ hk) hk
        simp only [List.getD, List.getElem?_set_ne (Ne.symm hi)]
      · exact hk.elim
    · exact hk.elim
  · exact h _ (.refl ..) hk
theorem freezeK_mf : ∀ {ts : List Nat} {σ : St} {K K' : St → Prop}, (∀ σ', FrD (fun i => i ∈ ts) σ σ' → K σ' → K' σ') → freezeK n ts σ K → freezeK n ts σ K' := by
  intro ts
  induction ts with
  | nil => intro σ K K' h hk; exact h _ (.refl ..) hk
  | cons t r ih =>
    intro σ K K' h hk
    exact freeze1_mf (fun τ hf hk => ih (fun υ hf' hk => h _ ((hf.weak fun i hi => by rw [hi]; exact List.mem_cons_self ..).trans (hf'.weak fun i hi => List.mem_cons_of_mem _ hi)) hk) hk) hk
theorem awp_mf {ctl : Ctl} : ∀ (c : Code) {σ : St} {K K' : Ex → St → Prop}, (∀ e σ', FrD (CD ctl c) σ σ' → K e σ' → K' e σ') → awp P S n ctl c σ K → awp P S n ctl c σ K' := by
  intro c
  induction c with
  | skip => intro σ K K' h hk; exact h _ _ (.refl ..) hk
  | region id ops draw =>
    intro σ K K' h hk
    have hc : ∀ τ σ', FrD (fun t => t ∈ ctl.fzAt id) σ τ → FrD (DstL (dstsOf ops.toList)) τ σ' → FrD (CD ctl (.region id ops draw)) σ (clean ctl.keep σ') := fun τ σ' hz hf =>
      ((hz.weak fun t ht => .inl (List.mem_append_right _ (by obtain ⟨q, hq, he⟩ := List.mem_map.1 ht; exact List.mem_map.2 ⟨q, (List.mem_filter.1 hq).1, he⟩))).trans
      (hf.weak fun t ht => .inl (List.mem_append_left _ (List.mem_filterMap.2 (by obtain ⟨o, ho, he⟩ := List.mem_map.1 ht; exact ⟨o, ho, he⟩))))).trans ((clean_fr ctl.keep σ').weak fun t ht => .inr ht)
    cases draw with
    | true =>
      simp only [awp, cleanK_eq] at hk ⊢
      refine freezeK_mf (fun τ hz hk => ?_) hk
      split at hk
      · rename_i hc2
        rw [if_pos hc2]
        exact dops_mf _ (fun σ' hf hk => h _ _ (hc τ σ' hz hf) hk) hk
      · exact hk.elim
    | false =>
      simp only [awp, cleanK_eq] at hk ⊢
      refine freezeK_mf (fun τ hz hk => ?_) hk
      exact aops_mf _ (fun o ho => List.mem_map.2 ⟨o, ho, rfl⟩) (fun σ' hf hk => h _ _ (hc τ σ' hz hf) hk) hk
  | seq a b iha ihb =>
    intro σ K K' h hk
    have ha : ∀ {σ σ'}, FrD (CD ctl a) σ σ' → FrD (CD ctl (.seq a b)) σ σ' := fun hf => hf.weak fun t ht => ht.imp dsts_seq.1 id
    have hb : ∀ {σ σ'}, FrD (CD ctl b) σ σ' → FrD (CD ctl (.seq a b)) σ σ' := fun hf => hf.weak fun t ht => ht.imp dsts_seq.2 id
    simp only [awp] at hk ⊢
    split at hk
    · rename_i p hp
      unfold joinK at hk ⊢
      split at hk
      case isFalse => exact hk.elim
      rename_i hin
      rw [if_pos hin]
      obtain ⟨J, h1, h2⟩ := hk
      refine ⟨J, iha (fun e σ' hf hk => ?_) h1, headK_mono (fun gs ls bs hk hj => ihb (fun e σ' hf hk => h _ _ ?_ hk) (hk hj)) h2⟩
      · cases e with
        | normal => exact hk
        | exit i => exact h _ _ (ha hf) hk
        | ret => exact h _ _ (ha hf) hk
      · exact (ha (headSt_fr hin)).trans (hb hf)
    · refine iha (fun e σ' hf hk => ?_) hk
      cases e with
      | normal => exact ihb (fun e σ'' hf' hk => h _ _ ((ha hf).trans (hb hf')) hk) hk
      | exit i => exact h _ _ (ha hf) hk
      | ret => exact h _ _ (ha hf) hk
  | cond c a b iha ihb =>
    intro σ K K' h hk
    have ha : ∀ {σ σ'}, FrD (CD ctl a) σ σ' → FrD (CD ctl (.cond c a b)) σ σ' := fun hf => hf.weak fun t ht => ht.imp dsts_seq.1 id
    have hb : ∀ {σ σ'}, FrD (CD ctl b) σ σ' → FrD (CD ctl (.cond c a b)) σ σ' := fun hf => hf.weak fun t ht => ht.imp dsts_seq.2 id
    simp only [awp] at hk ⊢
    split at hk
    · exact iha (fun e σ' hf hk => h _ _ (ha hf) hk) hk
    · exact ihb (fun e σ' hf hk => h _ _ (hb hf) hk) hk
    · exact br_mono (iha (fun e σ' hf hk => h _ _ (ha hf) hk)) (ihb (fun e σ' hf hk => h _ _ (hb hf) hk)) hk
    · exact hk.elim
  | block id b ih =>
    intro σ K K' h hk
    simp only [awp] at hk ⊢
    refine ih (fun e σ' hf hk => ?_) hk
    cases e with
    | normal => exact h _ _ hf hk
    | exit i =>
      simp only at hk ⊢
      split at hk
      · rename_i hi; rw [if_pos hi]; exact h _ _ hf hk
      · rename_i hi; rw [if_neg hi]; exact h _ _ hf hk
    | ret => exact h _ _ hf hk
  | loop b ih =>
    intro σ K K' h hk
    simp only [awp] at hk ⊢
    split at hk
    · rename_i p hp
      unfold loopK at hk ⊢
      split at hk
      case isFalse => exact hk.elim
      rename_i hin
      rw [if_pos hin]
      obtain ⟨I, h1, h2⟩ := hk
      refine ⟨I, h1, fun m => headK_mono (fun gs ls bs hk hj => ih (fun e σ' hf hk => ?_) (hk hj)) (h2 m)⟩
      have hff : FrD (CD ctl (.loop b)) σ σ' := (FrD.weak (headSt_fr hin) fun t ht => ht).trans (hf.weak fun t ht => ht)
      cases e with
      | normal => exact hk
      | exit i => exact h _ _ hff hk
      | ret => exact h _ _ hff hk
    · exact hk.elim
  | exit id => intro σ K K' h hk; exact h _ _ (.refl ..) hk
  | ret => intro σ K K' h hk; exact h _ _ (.refl ..) hk
  | rangeFunc f ps x y _ _ => intro σ K K' h hk; exact hk.elim
  | scope b _ => intro σ K K' h hk; exact hk.elim
  | label l => intro σ K K' h hk; exact hk.elim
  | goto l => intro σ K K' h hk; exact hk.elim
  | refuse s => intro σ K K' h hk; exact hk.elim

theorem iterN_more {ctl : Ctl} {b : Code} {K : Ex → St → Prop} : ∀ {m k : Nat} {σ : St}, m ≤ k → iterN n (awp P S n ctl b) m σ K → iterN n (awp P S n ctl b) k σ K := by
  intro m
  induction m with
  | zero => intro k σ _ h; exact h.elim
  | succ m ih =>
    intro k σ hk h
    cases k with
    | zero => omega
    | succ k =>
      refine awp_mf b (fun e σ' _ h => ?_) h
      cases e with
      | normal => obtain ⟨σ'', hw, h⟩ := h; exact ⟨σ'', hw, ih (by omega) h⟩
      | exit i => exact h
      | ret => exact h

/-- THE RULE OF LOOPS. -/
theorem loopK_iter {ctl : Ctl} {b : Code} {p : Pat} {σ : St} {K : Ex → St → Prop} (h : loopK P n ctl.keep (ctl.dsts b) p (awp P S n ctl b) σ K) : ∃ σ', Weaker n σ σ' ∧ ∃ m, iterN n (awp P S n ctl b) m σ' K := by
  unfold loopK at h
  split at h
  case isFalse => exact h.elim
  rename_i hin
  obtain ⟨I, h1, h2⟩ := h
  have key : ∀ (m : Nat) (gs : List AV) (ls : List (List AV)) (bs : List AV), I m (headV gs ls bs) → fitL (p.gen.map (·.2)) gs = true → ls.length = p.app.length → fitL (p.bgen.map (·.2)) bs = true →
      iterN n (awp P S n ctl b) (m + 1) (headSt P n ctl.keep (ctl.dsts b) p σ gs ls bs) K := by
    intro m
    induction m using Nat.strongRecOn with
    | _ m ih =>
      intro gs ls bs hI h3 h4 h5
      refine awp_mf b (fun e σ' hf hk => ?_) (headK_fit h3 h4 h5 (h2 m) hI)
      cases e with
      | exit i => exact hk
      | ret => exact hk
      | normal =>
        have hff := (headSt_fr (P := P) (n := n) (keep := ctl.keep) (σ := σ) (gs := gs) (ls := ls) (bs := bs) hin).trans (hf.weak fun t ht => ht)
        obtain ⟨gs', ls', bs', ⟨k, hk, hI'⟩, h3, h4, h5, hw⟩ := toHead_spec hff.1 (fun t h1 h2 => hff.2 t (by simp only [not_or, Classical.not_not]; exact ⟨h2, h1⟩)) (by simp) hk
        exact ⟨_, hw, iterN_more (by omega) (ih k hk gs' ls' bs' hI' h3 h4 h5)⟩
  obtain ⟨gs, ls, bs, ⟨m, hI⟩, h3, h4, h5, hw⟩ := toHead_spec rfl (fun _ _ _ => rfl) (fun _ => rfl) h1
  exact ⟨_, hw, _, key m gs ls bs hI h3 h4 h5⟩
/-- THE RULE OF JOINS. -/
theorem joinK_seq {ctl : Ctl} {a : Code} {g : St → (Ex → St → Prop) → Prop} {p : Pat} {σ : St} {K : Ex → St → Prop} (h : joinK P n ctl.keep (ctl.dsts a) p (awp P S n ctl a) g σ K) :
    awp P S n ctl a σ fun e σ1 => match e with
      | .normal => ∃ σ', Weaker n σ1 σ' ∧ g σ' K
      | e => K e σ1 := by
  unfold joinK at h
  split at h
  case isFalse => exact h.elim
  rename_i hin
  obtain ⟨J, h1, h2⟩ := h
  refine awp_mf a (fun e σ' hf hk => ?_) h1
  cases e with
  | exit i => exact hk
  | ret => exact hk
  | normal =>
    obtain ⟨gs, ls, bs, hJ, h3, h4, h5, hw⟩ := toHead_spec hf.1 (fun t h1 h2 => hf.2 t (by simp only [CD, not_or, Classical.not_not]; exact ⟨h2, h1⟩)) (by simp) hk
    exact ⟨_, hw, headK_fit h3 h4 h5 h2 hJ⟩
end
end Go.Proofs.Ytdaanpgdjjodcaa

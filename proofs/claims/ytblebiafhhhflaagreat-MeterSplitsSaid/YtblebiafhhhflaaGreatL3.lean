/- Loops by what holds at their heads; paths that join. -/
import Derived.Test.YtblebiafhhhflaaGreatL2
namespace Go.Proofs.YtblebiafhhhflaaGreat
open Go.RowKit

/-- What code may write, or forget. -/
def CD (ctl : Ctl) (c : Code) (t : Nat) : Prop := t ∈ ctl.dsts c ∨ t ∉ ctl.keep
theorem dsts_seq {ctl : Ctl} {a b : Code} {t : Nat} : (t ∈ ctl.dsts a → t ∈ dstsC a ++ dstsC b ++ (ctl.fz.filter fun q => decide (q.2 < 1000000000)).map (fun q => q.2 % 1000000)) ∧ (t ∈ ctl.dsts b → t ∈ dstsC a ++ dstsC b ++ (ctl.fz.filter fun q => decide (q.2 < 1000000000)).map (fun q => q.2 % 1000000)) := by
  simp only [Ctl.dsts, List.mem_append]
  exact ⟨fun h => h.elim (fun h => .inl (.inl h)) .inr, fun h => h.elim (fun h => .inl (.inr h)) .inr⟩
theorem clean_fr (keep : List Nat) (σ : St) : FrD (fun t => t ∉ keep) σ (clean keep σ) := by
  refine ⟨by simp [clean, mapI_len], fun t ht => ?_⟩
  simp only [clean]
  rw [mapIdx_getD]
  split
  · rw [if_pos (by simpa using ht)]
  · rename_i hl; rw [getD_le (by omega)]

section
variable {P : Program} {S : Specs} {n : Nat}
theorem headSt_fr {keep D : List Nat} {p : Pat} {σ : St} {gs : List AV} {ls : List (List AV)} {bs : List AV} (hp : patIn D p = true) :
    FrD (fun t => t ∈ D ∨ t ∉ keep) σ (headSt P n keep D p σ gs ls bs) := by
  refine ⟨by simp [headSt, mapI_len], fun t ht => ?_⟩
  simp only [not_or, Classical.not_not] at ht
  simp only [headSt]
  rw [mapIdx_getD]
  split
  case isFalse => rename_i hl; rw [getD_le (by omega)]
  rw [if_pos (by simpa using ht.2)]
  split
  · rename_i v hv
    exfalso
    unfold patIn at hp
    rw [List.all_eq_true] at hp
    have : t ∈ p.gen.map (·.1) ++ p.app.map (·.1) := by
      rcases List.mem_append.1 (lookup_mem hv) with hv | hv
      · exact List.mem_append_left _ (List.of_mem_zip hv).1
      · obtain ⟨q, hq, he⟩ := zipWith_mem hv
        simp only [Prod.mk.injEq] at he
        exact List.mem_append_right _ (List.mem_map.2 ⟨q.1, (List.of_mem_zip hq).1, he.1.symm⟩)
    have := hp t this
    simp only [List.contains_iff_mem] at this
    exact ht.1 this
  · rw [if_neg (by simpa using ht.1)]
theorem headK_mono {keep D : List Nat} {p : Pat} {σ : St} {C C' : List AV → St → Prop} (h : ∀ gs ls bs, C (headV gs ls bs) (headSt P n keep D p σ gs ls bs) → C' (headV gs ls bs) (headSt P n keep D p σ gs ls bs)) (hk : headK P n keep D p σ C) : headK P n keep D p σ C' :=
  allL_mono _ (fun _ hk => allS_mono _ (fun _ hk => allL_mono _ (fun _ hk => h _ _ _ hk) hk) hk) hk
theorem headK_fit {keep D : List Nat} {p : Pat} {σ : St} {C : List AV → St → Prop} {gs : List AV} {ls : List (List AV)} {bs : List AV} (h1 : fitL (p.gen.map (·.2)) gs = true) (h2 : ls.length = p.app.length) (h3 : fitL (p.bgen.map (·.2)) bs = true)
    (hk : headK P n keep D p σ C) : C (headV gs ls bs) (headSt P n keep D p σ gs ls bs) := by
  unfold headK at hk
  have h4 := allL_fit _ _ h1 hk
  have h5 := allS_fit _ _ h2 h4
  exact allL_fit _ _ h3 h5

theorem nameK_mono {nm : Bool} {esz : Nat} {ag : Bool} {len : Nat} {cs : List AV} {K K' : List AV → Prop} (h : ∀ es, K es → K' es) (hk : nameK nm esz ag len cs K) : nameK nm esz ag len cs K' := by
  unfold nameK at hk ⊢
  split at hk
  · rename_i hn
    rw [if_pos hn]
    obtain ⟨es, h1, h2⟩ := hk
    exact ⟨es, h1, h es h2⟩
  · rename_i hn
    rw [if_neg hn]; exact h _ hk
theorem freeze1_mf {nm : Bool} {t : Nat} {σ : St} {K K' : St → Prop} (h : ∀ σ', FrD (fun i => i = t) σ σ' → K σ' → K' σ') (hk : freeze1 nm n t σ K) : freeze1 nm n t σ K' := by
  unfold freeze1 at hk ⊢
  split at hk
  · rename_i hs
    (try simp only [hs])
    split at hk
    · rename_i hb
      (try simp only [hb])
      split at hk
      · rename_i hn
        rw [if_pos hn]
        refine withOK_mono (fun hk => nameK_mono (fun es hk => h _ ⟨by simp, fun i hi => ?_⟩ hk) hk) hk
        simp only [List.getD, List.getElem?_set_ne (Ne.symm hi)]
      · exact hk.elim
    · exact hk.elim
  · exact h _ (.refl ..) hk
theorem split1_mf {k t : Nat} {σ : St} {K K' : St → Prop} (h : ∀ σ', FrD (fun i => i = t) σ σ' → K σ' → K' σ') (hk : split1 k t σ K) : split1 k t σ K' := by
  unfold split1 at hk ⊢
  generalize σ.sl.getD t .undef = v at hk ⊢
  cases v with
  | int kd j => exact ⟨hk.1, selN_ang hk.2 fun m hm => h _ ⟨by simp, fun i hi => by simp only [List.getD, List.getElem?_set_ne (Ne.symm hi)]⟩ hm⟩
  | _ => exact h _ (.refl ..) hk
theorem freezeC_mf {nm : Bool} {off c : Nat} {σ : St} {K K' : St → Prop} (h : ∀ σ', FrD (fun _ => False) σ σ' → K σ' → K' σ') (hk : freezeC nm n off c σ K) : freezeC nm n off c σ K' := by
  have h0 := h _ (.refl ..)
  unfold freezeC at hk ⊢
  generalize σ.bx.getD c none = y at hk ⊢
  cases y with
  | none => exact h0 hk
  | some x =>
    dsimp only at hk ⊢
    split at hk
    · rename_i ha
      rw [if_pos ha]; exact h0 hk
    · rename_i ha
      rw [if_neg ha]
      generalize x.cs.getD off .undef = v at hk ⊢
      cases v with
      | aslc b o len esz ag =>
        dsimp only at hk ⊢
        generalize σ.boxN b = z at hk ⊢
        cases z with
        | none => exact hk.elim
        | some cs =>
          dsimp only at hk ⊢
          split at hk
          · rename_i hc
            rw [if_pos hc]
            exact withOK_mono (fun hk => nameK_mono (fun es hk => h ⟨σ.sl, _⟩ ⟨rfl, fun _ _ => rfl⟩ hk) hk) hk
          · exact hk.elim
      | _ => exact h0 hk
theorem freezeK_mf : ∀ {ts : List Nat} {σ : St} {K K' : St → Prop}, (∀ σ', FrD (fun i => ∃ t ∈ ts, t < 1000000000 ∧ i = t % 1000000) σ σ' → K σ' → K' σ') → freezeK n ts σ K → freezeK n ts σ K' := by
  intro ts
  induction ts with
  | nil => intro σ K K' h hk; exact h _ (.refl ..) hk
  | cons t r ih =>
    intro σ K K' h hk
    have rest : ∀ τ, FrD (fun i => t < 1000000000 ∧ i = t % 1000000) σ τ → freezeK n r τ K → freezeK n r τ K' := fun τ hf hk =>
      ih (fun υ hf' hk => h _ ((hf.weak fun i hi => ⟨t, List.mem_cons_self .., hi⟩).trans (hf'.weak fun i ⟨q, hq, he⟩ => ⟨q, List.mem_cons_of_mem _ hq, he⟩)) hk) hk
    simp only [freezeK] at hk ⊢
    split at hk
    · rename_i hlt
      rw [if_pos hlt]
      exact freeze1_mf (fun τ hf hk => rest τ (hf.weak fun i hi => ⟨by omega, by rw [hi, Nat.mod_eq_of_lt hlt]⟩) hk) hk
    · rename_i hlt
      rw [if_neg hlt]
      split at hk
      · rename_i hlt2
        rw [if_pos hlt2]
        split at hk
        · rename_i h9
          rw [if_pos h9]
          exact freeze1_mf (fun τ hf hk => rest τ (hf.weak fun i hi => ⟨hlt2, hi⟩) hk) hk
        · rename_i h9
          rw [if_neg h9]
          exact split1_mf (fun τ hf hk => rest τ (hf.weak fun i hi => ⟨hlt2, hi⟩) hk) hk
      · rename_i hlt2
        rw [if_neg hlt2]
        split at hk
        · rename_i h9
          rw [if_pos h9]
          exact freezeC_mf (fun τ hf hk => rest τ (hf.weak fun i hi => hi.elim) hk) hk
        · rename_i h9
          rw [if_neg h9]
          exact freezeC_mf (fun τ hf hk => rest τ (hf.weak fun i hi => hi.elim) hk) hk
theorem capSl_mem {L : Nat} {cap : List (Nat × Nat × TypeId)} {t : Nat} (h : t ∈ capSl L cap) : L ≤ t := by
  unfold capSl at h
  obtain ⟨i, _, rfl⟩ := List.mem_map.1 h
  omega
theorem patIn_up {D : List Nat} {p : Pat} {L : Nat} (h : patIn D p = true) : patIn (D ++ capSl L p.cap) (p.up L) = true := by
  unfold patIn at h ⊢
  simp only [List.all_eq_true, List.contains_iff_mem, List.mem_append, Pat.up] at h ⊢
  intro t ht
  rcases ht with ht | ht
  · exact .inl (h t (.inl ht))
  · rw [List.map_append, List.mem_append] at ht
    rcases ht with ht | ht
    · exact .inl (h t (.inr ht))
    · obtain ⟨q, hq, rfl⟩ := List.mem_map.1 ht
      obtain ⟨r, hr, rfl⟩ := zipWith_mem hq
      exact .inr (List.of_mem_zip hr).1
theorem up_app {p : Pat} {L : Nat} : (p.up L).app.length = p.app.length + p.cap.length := by
  simp [Pat.up, capSl]
theorem headC_fr {keep D : List Nat} {p : Pat} {σ : St} {gs : List AV} {ls : List (List AV)} {bs : List AV} (hp : patIn D p = true) :
    FrD (fun t => t ∈ D ∨ t ∉ keep) σ (dropC p.cap (headSt P n (keep ++ capSl σ.sl.length p.cap) (D ++ capSl σ.sl.length p.cap) (p.up σ.sl.length) (liftC p.cap σ) gs ls bs)) := by
  obtain ⟨l1, l2⟩ := liftC_sl p.cap σ
  have hf := headSt_fr (P := P) (n := n) (keep := keep ++ capSl σ.sl.length p.cap) (σ := liftC p.cap σ) (gs := gs) (ls := ls) (bs := bs) (patIn_up (L := σ.sl.length) hp)
  obtain ⟨d1, d2⟩ := dropC_sl p.cap (headSt P n (keep ++ capSl σ.sl.length p.cap) (D ++ capSl σ.sl.length p.cap) (p.up σ.sl.length) (liftC p.cap σ) gs ls bs) (by rw [hf.1, l1]; omega)
  refine ⟨by rw [d1, hf.1, l1]; omega, fun t ht => ?_⟩
  simp only [not_or, Classical.not_not] at ht
  rcases Nat.lt_or_ge t σ.sl.length with hl | hl
  · rw [d2 t (by rw [hf.1, l1]; omega), hf.2 t ?_, l2 t hl]
    rintro (h | h)
    · rcases List.mem_append.1 h with h | h
      · exact ht.1 h
      · have := capSl_mem h; omega
    · exact h (List.mem_append_left _ ht.2)
  · rw [getD_le (by rw [d1, hf.1, l1]; omega), getD_le hl]
theorem headKC_mono {keep D : List Nat} {p : Pat} {σ : St} {C C' : List AV → St → Prop}
    (h : ∀ gs ls bs, C (headV gs ls bs) (dropC p.cap (headSt P n (keep ++ capSl σ.sl.length p.cap) (D ++ capSl σ.sl.length p.cap) (p.up σ.sl.length) (liftC p.cap σ) gs ls bs)) →
      C' (headV gs ls bs) (dropC p.cap (headSt P n (keep ++ capSl σ.sl.length p.cap) (D ++ capSl σ.sl.length p.cap) (p.up σ.sl.length) (liftC p.cap σ) gs ls bs))) (hk : headKC P n keep D p σ C) : headKC P n keep D p σ C' := by
  unfold headKC at *
  exact headK_mono h hk
/-- From a state to a head, cells told apart as slots. -/
theorem toHeadC_spec {keep D : List Nat} {p : Pat} {σ0 σ : St} {entry : Bool} {C : List AV → Prop} (hlen : σ.sl.length = σ0.sl.length) (hkept : ∀ t, t ∈ keep → t ∉ D → σ.sl.getD t .undef = σ0.sl.getD t .undef) (hen : entry = true → σ0 = σ)
    (hk : toHeadC P n keep D p entry σ0 σ C) : ∃ gs ls bs, C (headV gs ls bs) ∧ fitL (p.gen.map (·.2)) gs = true ∧ ls.length = p.app.length + p.cap.length ∧ fitL (p.bgen.map (·.2)) bs = true ∧
      Weaker n σ (dropC p.cap (headSt P n (keep ++ capSl σ0.sl.length p.cap) (D ++ capSl σ0.sl.length p.cap) (p.up σ0.sl.length) (liftC p.cap σ0) gs ls bs)) := by
  unfold toHeadC at hk
  dsimp only at hk
  split at hk
  case isFalse => exact hk.elim
  rename_i hc
  obtain ⟨a1, a2⟩ := liftC_sl p.cap σ
  obtain ⟨b1, b2⟩ := liftC_sl p.cap σ0
  obtain ⟨gs, ls, bs, h1, h2, h3, h4, h5⟩ := toHead_spec (by rw [a1, b1, hlen]) (fun t ht hd => by
    simp only [List.mem_append, not_or] at ht hd
    rcases ht with ht | ht
    · rcases Nat.lt_or_ge t σ0.sl.length with hl | hl
      · rw [a2 t (by omega), b2 t hl]; exact hkept t ht hd.1
      · by_cases hl2 : t < σ0.sl.length + p.cap.length
        · exact absurd (List.mem_map.2 ⟨t - σ0.sl.length, List.mem_range.2 (by omega), by omega⟩) hd.2
        · rw [getD_le (by rw [a1]; omega), getD_le (by rw [b1]; omega)]
    · exact absurd ht hd.2) (fun he => by rw [hen he]) hk
  refine ⟨gs, ls, bs, h1, h2, ?_, h4, (dropC_wk p.cap hc h5).weaker⟩
  rw [h3, up_app]
theorem headKC_fit {keep D : List Nat} {p : Pat} {σ : St} {C : List AV → St → Prop} {gs : List AV} {ls : List (List AV)} {bs : List AV} (h1 : fitL (p.gen.map (·.2)) gs = true) (h2 : ls.length = p.app.length + p.cap.length) (h3 : fitL (p.bgen.map (·.2)) bs = true)
    (hk : headKC P n keep D p σ C) : C (headV gs ls bs) (dropC p.cap (headSt P n (keep ++ capSl σ.sl.length p.cap) (D ++ capSl σ.sl.length p.cap) (p.up σ.sl.length) (liftC p.cap σ) gs ls bs)) :=
  by
  unfold headKC at hk
  exact headK_fit (p := p.up σ.sl.length) h1 (by rw [h2, up_app]) h3 hk
theorem foldl_set_getD {l : List AV} : ∀ (ts : List Nat) (t : Nat), t ∉ ts → (ts.foldl (fun l t => l.set t .undef) l).getD t .undef = l.getD t .undef := by
  intro ts
  induction ts generalizing l with
  | nil => intro t _; rfl
  | cons x r ih =>
    intro t ht
    simp only [List.mem_cons, not_or] at ht
    simp only [List.foldl_cons]
    rw [ih t ht.2]
    simp only [List.getD, List.getElem?_set_ne (Ne.symm ht.1)]
theorem foldl_set_len {l : List AV} : ∀ (ts : List Nat), (ts.foldl (fun l t => l.set t .undef) l).length = l.length := by
  intro ts
  induction ts generalizing l with
  | nil => rfl
  | cons x r ih => simp only [List.foldl_cons, ih, List.length_set]
theorem awp_mf (hI : InlMf S.inl) {ctl : Ctl} : ∀ (c : Code) {n : Nat} {σ : St} {K K' : Ex → St → Prop}, (∀ e σ', FrD (CD ctl c) σ σ' → K e σ' → K' e σ') → awp P S n ctl c σ K → awp P S n ctl c σ K' := by
  intro c
  induction c with
  | skip => intro n σ K K' h hk; exact h _ _ (.refl ..) hk
  | region id ops draw =>
    intro n σ K K' h hk
    have hc : ∀ τ σ', FrD (fun i => ∃ t ∈ ctl.fzAt id, t < 1000000000 ∧ i = t % 1000000) σ τ → FrD (DstL (dstsOf ops.toList)) τ σ' → FrD (CD ctl (.region id ops draw)) σ (clean ctl.keep σ') := fun τ σ' hz hf =>
      ((hz.weak fun t ⟨u, hu, hlt, ht⟩ => .inl (List.mem_append_right _ (by obtain ⟨q, hq, he⟩ := List.mem_map.1 hu; exact List.mem_map.2 ⟨q, List.mem_filter.2 ⟨(List.mem_filter.1 hq).1, by rw [he]; exact decide_eq_true hlt⟩, by rw [he, ht]⟩))).trans
      (hf.weak fun t ht => .inl (List.mem_append_left _ (List.mem_filterMap.2 (by obtain ⟨o, ho, he⟩ := List.mem_map.1 ht; exact ⟨o, ho, he⟩))))).trans ((clean_fr ctl.keep σ').weak fun t ht => .inr ht)
    cases draw with
    | true =>
      simp only [awp, awpR, cleanK_eq, forceL_eq] at hk ⊢
      refine freezeK_mf (fun τ hz hk => ?_) hk
      split at hk
      · rename_i hc2
        rw [if_pos hc2]
        exact drawA_mf hI (fun σ' hf hk => h _ _ (hc τ σ' hz hf) hk) hk
      · exact hk.elim
    | false =>
      simp only [awp, awpR, cleanK_eq] at hk ⊢
      refine freezeK_mf (fun τ hz hk => ?_) hk
      split at hk
      · rename_i hm
        rw [if_pos hm]
        exact aopsM_mf hI _ (fun o ho => List.mem_map.2 ⟨o, ho, rfl⟩) (fun σ' hf hk => h _ _ (hc τ σ' hz hf) hk) hk
      rename_i hm
      rw [if_neg hm]
      exact aops_mf hI _ (fun o ho => List.mem_map.2 ⟨o, ho, rfl⟩) (fun σ' hf hk => h _ _ (hc τ σ' hz hf) hk) hk
  | seq a b iha ihb =>
    intro n σ K K' h hk
    have ha : ∀ {σ σ'}, FrD (CD ctl a) σ σ' → FrD (CD ctl (.seq a b)) σ σ' := fun hf => hf.weak fun t ht => ht.imp dsts_seq.1 id
    have hb : ∀ {σ σ'}, FrD (CD ctl b) σ σ' → FrD (CD ctl (.seq a b)) σ σ' := fun hf => hf.weak fun t ht => ht.imp dsts_seq.2 id
    simp only [awp, awpR] at hk ⊢
    split at hk
    · rename_i p hp
      unfold joinK at hk ⊢
      split at hk
      case isFalse => exact hk.elim
      rename_i hin
      rw [if_pos hin]
      obtain ⟨J, h1, h2⟩ := hk
      refine ⟨J, iha (fun e σ' hf hk => ?_) h1, headKC_mono (fun gs ls bs hk hj => ihb (fun e σ' hf hk => h _ _ ?_ hk) (hk hj)) h2⟩
      · cases e with
        | normal => exact hk
        | exit i => exact h _ _ (ha hf) hk
        | ret => exact h _ _ (ha hf) hk
      · exact (ha (headC_fr hin)).trans (hb hf)
    · refine iha (fun e σ' hf hk => ?_) hk
      cases e with
      | normal => exact ihb (fun e σ'' hf' hk => h _ _ ((ha hf).trans (hb hf')) hk) hk
      | exit i => exact h _ _ (ha hf) hk
      | ret => exact h _ _ (ha hf) hk
  | cond c a b iha ihb =>
    intro n σ K K' h hk
    have ha : ∀ {σ σ'}, FrD (CD ctl a) σ σ' → FrD (CD ctl (.cond c a b)) σ σ' := fun hf => hf.weak fun t ht => ht.imp dsts_seq.1 id
    have hb : ∀ {σ σ'}, FrD (CD ctl b) σ σ' → FrD (CD ctl (.cond c a b)) σ σ' := fun hf => hf.weak fun t ht => ht.imp dsts_seq.2 id
    simp only [awp, awpR] at hk ⊢
    split at hk
    · exact iha (fun e σ' hf hk => h _ _ (ha hf) hk) hk
    · exact ihb (fun e σ' hf hk => h _ _ (hb hf) hk) hk
    · exact br_mono (iha (fun e σ' hf hk => h _ _ (ha hf) hk)) (ihb (fun e σ' hf hk => h _ _ (hb hf) hk)) hk
    · exact hk.elim
  | block id b ih =>
    intro n σ K K' h hk
    simp only [awp, awpR] at hk ⊢
    refine ih (fun e σ' hf hk => ?_) hk
    cases e with
    | normal => exact h _ _ hf hk
    | exit i =>
      simp only at hk ⊢
      split at hk
      · rename_i hi; rw [if_pos hi]; exact h _ _ hf hk
      · rename_i hi; rw [if_neg hi]; exact h _ _ hf hk
    | ret => exact h _ _ hf hk
  | loop b ih =>
    intro n σ K K' h hk
    simp only [awp, awpR] at hk ⊢
    split at hk
    · rename_i p hp
      unfold loopK at hk ⊢
      split at hk
      case isFalse => exact hk.elim
      rename_i hin
      rw [if_pos hin]
      obtain ⟨I, h1, h2⟩ := hk
      refine ⟨I, h1, fun m => headKC_mono (fun gs ls bs hk hj => ih (fun e σ' hf hk => ?_) (hk hj)) (h2 m)⟩
      have hff : FrD (CD ctl (.loop b)) σ σ' := (FrD.weak (headC_fr hin) fun t ht => ht).trans (hf.weak fun t ht => ht)
      cases e with
      | normal => exact hk
      | exit i => exact h _ _ hff hk
      | ret => exact h _ _ hff hk
    · have key : ∀ (m : Nat) {σ1 : St}, FrD (CD ctl (.loop b)) σ σ1 → iterK (awpR P S ctl b n) m σ1 K → iterK (awpR P S ctl b n) m σ1 K' := by
        intro m
        induction m with
        | zero => intro σ1 _ hk; exact hk.elim
        | succ m ihm =>
          intro σ1 h1 hk
          refine ih (fun e σ2 hf hk => ?_) hk
          have hff : FrD (CD ctl (.loop b)) σ σ2 := h1.trans (hf.weak fun t ht => ht)
          cases e with
          | normal => exact ihm hff hk
          | exit i => exact h _ _ hff hk
          | ret => exact h _ _ hff hk
      exact key 8 (.refl ..) hk
  | exit id => intro n σ K K' h hk; exact h _ _ (.refl ..) hk
  | ret => intro n σ K K' h hk; exact h _ _ (.refl ..) hk
  | rangeFunc g ps x y ihx ihy =>
    intro n σ K K' h hk
    simp only [awp, awpR] at hk ⊢
    split at hk
    case h_2 => exact hk.elim
    rename_i p hp
    split at hk
    case isFalse => exact hk.elim
    rename_i hnr
    rw [if_pos hnr]
    unfold rangeA at hk ⊢
    split at hk
    case h_2 => exact hk.elim
    split at hk
    case h_2 => exact hk.elim
    split at hk
    case isFalse => exact hk.elim
    rename_i hc
    rw [if_pos hc]
    simp only [Bool.and_eq_true] at hc
    have hin : patIn [] p = true := hc.2
    obtain ⟨xs, h1, h2, I, h3, h4, h5⟩ := hk
    have h0 : ∀ (sl : List AV) (bx bx' : List (Option Bx)), FrD (CD ctl (.rangeFunc g ps x y)) σ ⟨sl, bx⟩ → FrD (CD ctl (.rangeFunc g ps x y)) σ ⟨sl, bx'⟩ := fun sl bx bx' hf => ⟨hf.1, hf.2⟩
    have hs0 : FrD (CD ctl (.rangeFunc g ps x y)) σ ⟨(slotOf g ++ (ctl.fz.filter (fun q : Nat × Nat => decide (q.2 < 1000000000))).map (fun q : Nat × Nat => q.2 % 1000000)).foldl (fun l t => l.set t .undef) σ.sl, σ.bx⟩ := by
      refine ⟨foldl_set_len _, fun t ht => foldl_set_getD _ t fun hm => ht (.inl ?_)⟩
      rcases List.mem_append.1 hm with hm | hm
      case inr => exact List.mem_append_right _ hm
      refine List.mem_append_left _ ?_
      unfold slotOf at hm
      cases g with
      | tmp q => simp only [List.mem_singleton] at hm; subst hm; simp [dstsC]
      | _ => simp at hm
    refine ⟨xs, h1, h2, I, h3, fun i => allL_mono _ (fun z hk hz => headKC_mono (fun gs ls bs hk hj => ?_) (hk hz)) (h4 i), headKC_mono (fun gs ls bs hk hj => h _ _ ?_ (hk hj)) h5⟩
    · have hk := hk hj
      split at hk
      · rename_i hl
        rw [if_pos hl]
        refine ihx (fun e σa _ hk => ?_) hk
        cases e with
        | normal =>
          dsimp only at hk ⊢
          split at hk
          · rename_i hl2
            rw [if_pos hl2]
            refine ihy (fun e σ1 _ hk => ?_) hk
            split at hk
            case isFalse => exact hk.elim
            rename_i hbk
            rw [if_pos hbk]
            cases e with
            | normal => exact hk
            | exit i => exact h _ _ (h0 _ _ _ ((h0 _ _ _ hs0).trans ((headC_fr (p := p.res n _) hin).weak fun t ht => ht.elim (fun h => by cases h) .inr))) hk
            | ret => exact h _ _ (h0 _ _ _ ((h0 _ _ _ hs0).trans ((headC_fr (p := p.res n _) hin).weak fun t ht => ht.elim (fun h => by cases h) .inr))) hk
          · exact hk.elim
        | exit i => exact hk.elim
        | ret => exact hk.elim
      · exact hk.elim
    · exact (h0 _ _ _ hs0).trans ((headC_fr (p := p.res n _) hin).weak fun t ht => ht.elim (fun h => by cases h) .inr)
  | scope b _ => intro n σ K K' h hk; exact hk.elim
  | label l => intro n σ K K' h hk; exact hk.elim
  | goto l => intro n σ K K' h hk; exact hk.elim
  | refuse s => intro n σ K K' h hk; exact hk.elim

theorem iterN_more (hI : InlMf S.inl) {ctl : Ctl} {b : Code} {K : Ex → St → Prop} : ∀ {m k : Nat} {σ : St}, m ≤ k → iterN n (awp P S n ctl b) m σ K → iterN n (awp P S n ctl b) k σ K := by
  intro m
  induction m with
  | zero => intro k σ _ h; exact h.elim
  | succ m ih =>
    intro k σ hk h
    cases k with
    | zero => omega
    | succ k =>
      refine awp_mf hI b (fun e σ' _ h => ?_) h
      cases e with
      | normal => obtain ⟨σ'', hw, h⟩ := h; exact ⟨σ'', hw, ih (by omega) h⟩
      | exit i => exact h
      | ret => exact h

/-- THE RULE OF LOOPS. -/
theorem loopK_iter (hI : InlMf S.inl) {ctl : Ctl} {b : Code} {p : Pat} {σ : St} {K : Ex → St → Prop} (h : loopK P n ctl.keep (ctl.dsts b) p (awp P S n ctl b) σ K) : ∃ σ', Weaker n σ σ' ∧ ∃ m, iterN n (awp P S n ctl b) m σ' K := by
  unfold loopK at h
  split at h
  case isFalse => exact h.elim
  rename_i hin
  obtain ⟨I, h1, h2⟩ := h
  have key : ∀ (m : Nat) (gs : List AV) (ls : List (List AV)) (bs : List AV), I m (headV gs ls bs) → fitL (p.gen.map (·.2)) gs = true → ls.length = p.app.length + p.cap.length → fitL (p.bgen.map (·.2)) bs = true →
      iterN n (awp P S n ctl b) (m + 1) (dropC p.cap (headSt P n (ctl.keep ++ capSl σ.sl.length p.cap) (ctl.dsts b ++ capSl σ.sl.length p.cap) (p.up σ.sl.length) (liftC p.cap σ) gs ls bs)) K := by
    intro m
    induction m using Nat.strongRecOn with
    | _ m ih =>
      intro gs ls bs hI' h3 h4 h5
      refine awp_mf hI b (fun e σ' hf hk => ?_) (headKC_fit h3 h4 h5 (h2 m) hI')
      cases e with
      | exit i => exact hk
      | ret => exact hk
      | normal =>
        have hff := (headC_fr (P := P) (n := n) (keep := ctl.keep) (σ := σ) (gs := gs) (ls := ls) (bs := bs) hin).trans (hf.weak fun t ht => ht)
        obtain ⟨gs', ls', bs', ⟨k, hk, hI'⟩, h3, h4, h5, hw⟩ := toHeadC_spec hff.1 (fun t h1 h2 => hff.2 t (by simp only [not_or, Classical.not_not]; exact ⟨h2, h1⟩)) (by simp) hk
        exact ⟨_, hw, iterN_more hI (by omega) (ih k hk gs' ls' bs' hI' h3 h4 h5)⟩
  obtain ⟨gs, ls, bs, ⟨m, hI'⟩, h3, h4, h5, hw⟩ := toHeadC_spec rfl (fun _ _ _ => rfl) (fun _ => rfl) h1
  exact ⟨_, hw, _, key m gs ls bs hI' h3 h4 h5⟩
/-- THE RULE OF JOINS. -/
theorem joinK_seq (hI : InlMf S.inl) {ctl : Ctl} {a : Code} {g : St → (Ex → St → Prop) → Prop} {p : Pat} {σ : St} {K : Ex → St → Prop} (h : joinK P n ctl.keep (ctl.dsts a) p (awp P S n ctl a) g σ K) :
    awp P S n ctl a σ fun e σ1 => match e with
      | .normal => ∃ σ', Weaker n σ1 σ' ∧ g σ' K
      | e => K e σ1 := by
  unfold joinK at h
  split at h
  case isFalse => exact h.elim
  rename_i hin
  obtain ⟨J, h1, h2⟩ := h
  refine awp_mf hI a (fun e σ' hf hk => ?_) h1
  cases e with
  | exit i => exact hk
  | ret => exact hk
  | normal =>
    obtain ⟨gs, ls, bs, hJ, h3, h4, h5, hw⟩ := toHeadC_spec hf.1 (fun t h1 h2 => hf.2 t (by simp only [CD, not_or, Classical.not_not]; exact ⟨h2, h1⟩)) (by simp) hk
    exact ⟨_, hw, headKC_fit h3 h4 h5 h2 hJ⟩
end
end Go.Proofs.YtblebiafhhhflaaGreat

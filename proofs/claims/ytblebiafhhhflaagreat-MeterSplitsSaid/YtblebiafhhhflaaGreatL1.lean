/- What is followed may be followed to more; and slots that code does not write are as they were. -/
import Derived.Test.YtblebiafhhhflaaGreatW0
namespace Go.Proofs.YtblebiafhhhflaaGreat
open Go.RowKit

/-- Slots outside D are as they were. -/
def FrD (D : Nat → Prop) (σ σ' : St) : Prop := σ'.sl.length = σ.sl.length ∧ ∀ t, ¬ D t → σ'.sl.getD t .undef = σ.sl.getD t .undef
theorem FrD.refl (D : Nat → Prop) (σ : St) : FrD D σ σ := ⟨rfl, fun _ _ => rfl⟩
theorem FrD.trans {D : Nat → Prop} {σ τ υ : St} (h : FrD D σ τ) (h' : FrD D τ υ) : FrD D σ υ := ⟨h'.1.trans h.1, fun t ht => (h'.2 t ht).trans (h.2 t ht)⟩
theorem FrD.weak {D D' : Nat → Prop} {σ τ : St} (h : FrD D σ τ) (hd : ∀ t, D t → D' t) : FrD D' σ τ := ⟨h.1, fun t ht => h.2 t fun hh => ht (hd t hh)⟩
def Dst (d : Option Nat) (t : Nat) : Prop := d = some t
theorem FrD.put (σ : St) (d : Option Nat) (v : AV) : FrD (Dst d) σ (σ.put d v) := by
  cases d with
  | none => exact .refl ..
  | some d =>
    refine ⟨by simp [St.put], fun t ht => ?_⟩
    have : d ≠ t := fun h => ht (by rw [h]; rfl)
    simp only [St.put, List.getD, List.getElem?_set_ne this]
theorem FrD.bx (σ : St) (D : Nat → Prop) (bx : List (Option Bx)) : FrD D σ { σ with bx := bx } := ⟨rfl, fun _ _ => rfl⟩

theorem Ang.mono {α : Type} {F : (α → Prop) → Prop} (hF : Ang F) {K K' : α → Prop} (h : ∀ v, K v → K' v) (hk : F K) : F K' := by
  obtain ⟨v, h1, h2⟩ := hF K hk
  exact h2 K' (h v h1)
theorem withOK_mono {g : Nat → Option (List AV)} {l : List (Nat × Nat × Nat × Bool)} {K K' : Prop} (h : K → K') (hk : withOK g l K) : withOK g l K' := by
  obtain ⟨h1, h2⟩ := withOK_ang hk
  exact h2 g K' (fun _ _ => rfl) (h h1)

mutual
theorem forceV_eq : ∀ (v : AV) (k : AV → Prop), forceV v k = k v
  | .undef, _ | .tt, _ | .ff, _ | .bool _, _ | .lit _ _, _ | .int _ _, _ | .str _, _ | .nilp, _ | .ref _ _, _ | .slc _ _, _ | .aslc _ _ _ _ _, _ | .nilfn, _ | .nilif, _ | .map _, _ | .nilmap, _ | .yld _, _ => by simp only [forceV]
  | .eptr cs off, k => by simp only [forceV, forceVs_eq cs]
  | .fn f a c, k => by simp only [forceV, forceVs_eq a, forceVs_eq c]
  | .iface t v, k => by simp only [forceV, forceV_eq v]
  | .agg cs, k => by simp only [forceV, forceVs_eq cs]
  | .tup cs, k => by simp only [forceV, forceVs_eq cs]
theorem forceVs_eq : ∀ (l : List AV) (k : List AV → Prop), forceVs l k = k l
  | [], _ => by simp only [forceVs]
  | x :: r, k => by simp only [forceVs, forceV_eq x, forceVs_eq r]
end
theorem forceSl_eq (keep : List Nat) : ∀ (l : List AV) (i : Nat) (k : List AV → Prop), forceSl keep i l k = k (mapFrom (fun j v => if keep.contains j then v else .undef) i l) := by
  intro l
  induction l with
  | nil => intro i k; rfl
  | cons x r ih =>
    intro i k
    simp only [forceSl, forceV_eq, ih, mapFrom]
    split <;> rfl
theorem forceBx_eq : ∀ (l : List (Option Bx)) (k : List (Option Bx) → Prop), forceBx l k = k l := by
  intro l
  induction l with
  | nil => intro k; rfl
  | cons x r ih =>
    intro k
    cases x with
    | none => simp only [forceBx, ih]
    | some x =>
      obtain ⟨t, a, cs⟩ := x
      cases a <;> simp only [forceBx, ih, forceVs_eq]
theorem cleanK_eq (keep : List Nat) (σ : St) (K : St → Prop) : cleanK keep σ K = K (clean keep σ) := by
  simp only [cleanK, forceSl_eq, forceBx_eq, clean, mapI]

section
variable {P : Program} {S : Specs} {n : Nat}
theorem mkBox_mf {d : Nat} {x : Bx} {p : AV} {σ : St} {K K' : St → Prop} (h : ∀ σ', FrD (Dst (some d)) σ σ' → K σ' → K' σ') (hk : mkBox n d x p σ K) : mkBox n d x p σ K' := by
  unfold mkBox at *
  split at hk
  · rename_i hc; rw [if_pos hc]
    exact h _ ((FrD.put σ (some d) p).trans (.bx _ _ _)) hk
  · exact hk.elim
theorem callA_mf {f : FuncId} {args : List AV} {d : Option Nat} {σ : St} {K K' : St → Prop} (h : ∀ σ', FrD (Dst d) σ σ' → K σ' → K' σ') (hk : callA P S n f args d σ K) : callA P S n f args d σ K' := by
  unfold callA at *
  dsimp only at *
  split at hk
  case h_2 => exact hk.elim
  rename_i bs fn hb hf
  try simp only [hb, hf]
  split at hk
  · exact hk.elim
  rename_i hc
  rw [if_neg hc]
  refine withOK_mono (fun hk => ?_) hk
  refine exAlt_ang.mono (fun v hk => ?_) hk
  refine (exBoxesW_ang _).mono (fun O hk => ⟨hk.1, ?_⟩) hk
  have hk := hk.2
  split at hk
  · rename_i h1; rw [if_pos h1]; exact h _ ((FrD.bx σ _ _).trans (.put _ d _)) hk
  · rename_i h1
    rw [if_neg h1]
    split at hk
    · rename_i h2; rw [if_pos h2]; exact h _ ((FrD.bx σ _ _).trans (.put _ d _)) hk
    · exact hk.elim
/-- What follows a function where it is called minds the slots of the state ahead alone. -/
def InlMf (il : InlF) : Prop := ∀ f args σ (K K' : AV → St → Prop), (∀ v σ', σ'.sl = σ.sl → K v σ' → K' v σ') → il f args σ K → il f args σ K'
theorem callX_mf (hI : InlMf S.inl) {f : FuncId} {args : List AV} {d : Option Nat} {σ : St} {K K' : St → Prop} (h : ∀ σ', FrD (Dst d) σ σ' → K σ' → K' σ') (hk : callX P S n f args d σ K) : callX P S n f args d σ K' := by
  unfold callX at *
  split at hk
  · rename_i hc
    rw [if_pos hc]
    refine hI f args σ _ _ (fun v σ' hsl hk => ?_) hk
    split at hk
    · rename_i hb
      rw [if_pos hb]
      refine h _ ?_ hk
      have : FrD (Dst d) σ σ' := ⟨by rw [hsl], fun t _ => by rw [hsl]⟩
      exact this.trans (.put _ d _)
    · exact hk.elim
  · rename_i hc
    rw [if_neg hc]
    exact callA_mf h hk
theorem mutR_mono {ts : List TypeId} {b len : Nat} {K K' : Nat → AV → Prop} (h : ∀ k v, K k v → K' k v) (hk : mutR ts b len K) : mutR ts b len K' := by
  unfold mutR at *
  split at hk
  · exact h _ _ hk
  · obtain ⟨m, h1, h2⟩ := hk
    exact ⟨m, h1, h _ _ h2⟩
  · exact hk.elim
theorem mutA_mf {f : FuncId} {b len : Nat} {d : Option Nat} {σ : St} {K K' : St → Prop} (h : ∀ σ', FrD (Dst d) σ σ' → K σ' → K' σ') (hk : mutA P S f b len d σ K) : mutA P S f b len d σ K' := by
  unfold mutA at *
  split at hk
  · split at hk
    · rename_i hx ha
      try simp only [hx]
      rw [if_pos ha]
      refine mutR_mono (fun k v hq => ?_) hk
      obtain ⟨zs, zs', h1, h2⟩ := hq
      refine ⟨zs, zs', h1, h _ ?_ h2⟩
      have : FrD (Dst d) σ { σ with bx := σ.bx.set b (some { (by assumption : Bx) with cs := zs'.map (AV.int .i64) }) } := ⟨rfl, fun t _ => rfl⟩
      exact FrD.trans ⟨rfl, fun t _ => rfl⟩ (.put _ d _)
    · exact hk.elim
  · exact hk.elim
theorem callF_mf {f : FuncId} {args : List AV} {d : Option Nat} {σ : St} {K K' : St → Prop} (h : ∀ σ', FrD (Dst d) σ σ' → K σ' → K' σ') (hk : callF P S n f args d σ K) : callF P S n f args d σ K' := by
  unfold callF at *
  split at hk
  · rename_i b len hm
    try simp only [hm]
    exact mutA_mf h hk
  rename_i hm
  try simp only [hm]
  split at hk
  · split at hk
    · rename_i ht
      obtain ⟨es, h1, h2⟩ := hk
      try simp only
      rw [if_pos ht]
      exact ⟨es, h1, mkBox_mf h h2⟩
    · exact hk.elim
  · exact hk.elim
theorem callG_mf {f : FuncId} {args : List AV} {d : Option Nat} {σ : St} {K K' : St → Prop} (h : ∀ σ', FrD (Dst d) σ σ' → K σ' → K' σ') (hk : callG P S n f args d σ K) : callG P S n f args d σ K' := by
  unfold callG at *
  split at hk
  · rename_i hc
    try simp only [hc]
    split at hk
    · split at hk
      · rename_i h1 h2 h3
        try simp only [h1, h2, h3]
        exact ⟨hk.1, h _ (.put σ d _) hk.2⟩
      · exact hk.elim
    · exact hk.elim
  · rename_i hc
    try simp only [hc]
    exact callF_mf h hk
theorem loadA_mono {t : TypeId} {σ : St} {x : AV} {K K' : AV → Prop} (h : ∀ v, K v → K' v) (hk : loadA P t σ x K) : loadA P t σ x K' := by
  obtain ⟨v, h1, h2⟩ := loadA_local hk
  exact h2 σ (fun _ _ => rfl) K' (h v h1)
theorem storeA_mf {t : TypeId} {σ : St} {a v : AV} {K K' : St → Prop} (h : ∀ σ', FrD (fun _ => False) σ σ' → K σ' → K' σ') (hk : storeA P t σ a v K) : storeA P t σ a v K' := by
  obtain ⟨b, x, _, _, h1, h2⟩ := storeA_local hk
  exact h2 σ (fun _ _ => rfl) K' (h _ (.bx _ _ _) h1)
theorem sliceA_mono {t : TypeId} {σ : St} {x : AV} {lo hi mx : Option AV} {K K' : AV → Prop} (h : ∀ v, K v → K' v) (hk : sliceA P t σ x lo hi mx K) : sliceA P t σ x lo hi mx K' := by
  unfold sliceA at *
  repeat' split at hk
  all_goals first
    | exact hk.elim
    | (simp_all; done)
    | (obtain ⟨h1, h2⟩ := hk; simp_all; done)
    | (obtain ⟨⟨h0, h1, h1'⟩, h2⟩ := hk; subst h1; simp_all; done)
theorem withCells_mono {k : Nat} {σ : St} {x : AV} {K K' : Nat → List AV → Prop} (h : ∀ m l, K m l → K' m l) (hk : withCells σ k x K) : withCells σ k x K' := by
  unfold withCells at *
  split at hk
  · exact ⟨hk.1, h _ _ hk.2⟩
  · split at hk
    · rename_i hb; (try simp only [hb]); exact ⟨hk.1, h _ _ hk.2⟩
    · exact hk.elim
  · exact hk.elim
theorem appendA_mf {ts : List TypeId} {s x : AV} {d : Nat} {σ : St} {K K' : St → Prop} (h : ∀ σ', FrD (Dst (some d)) σ σ' → K σ' → K' σ') (hk : appendA P n ts s x d σ K) : appendA P n ts s x d σ K' := by
  unfold appendA at *
  split at hk
  · split at hk
    · rename_i h1 h2
      try simp only [h1, h2]
      split at hk
      · exact hk.elim
      · rename_i hc
        rw [if_neg hc]
        refine withCells_mono (fun m l hk => ?_) hk
        split at hk
        · exact ⟨hk.1, mkBox_mf h hk.2⟩
        · exact ⟨hk.1, mkBox_mf h hk.2⟩
        · split at hk
          · rename_i hb
            try simp only [hb]
            split at hk
            · rename_i h3; rw [if_pos h3]; exact ⟨hk.1, mkBox_mf (fun σ' h1 h2 => h σ' (.trans ⟨rfl, fun _ _ => rfl⟩ h1) h2) hk.2⟩
            · exact hk.elim
          · exact hk.elim
        · exact hk.elim
    · exact hk.elim
  · exact hk.elim

theorem lookupA_mono {t : TypeId} {σ : St} {m k : AV} {ok : Bool} {K K' : AV → Prop} (h : ∀ v, K v → K' v) (hk : lookupA P t σ m k ok K) : lookupA P t σ m k ok K' := by
  unfold lookupA at *
  split at hk
  · split at hk
    · split at hk
      · exact ⟨hk.1, hk.2.1, (exT_ang _).mono (fun v ⟨f, h1, h2⟩ => ⟨f, h1, h _ h2⟩) hk.2.2⟩
      · exact hk.elim
    · exact hk.elim
  · exact hk.elim
theorem putA_mf {t : TypeId} {σ : St} {m k v : AV} {K K' : St → Prop} (h : ∀ σ', FrD (fun _ => False) σ σ' → K σ' → K' σ') (hk : putA P t σ m k v K) : putA P t σ m k v K' := by
  unfold putA at *
  split at hk
  · split at hk
    · split at hk
      · split at hk
        · rename_i hc
          try simp only
          rw [if_pos hc]
          obtain ⟨h1, h2, es', h3, h4⟩ := hk
          exact ⟨h1, h2, es', h3, h _ (.bx _ _ _) h4⟩
        · exact hk.elim
      · exact hk.elim
    · exact hk.elim
  · exact hk.elim
theorem mkMap_mf {d : Nat} {t : TypeId} {σ : St} {K K' : St → Prop} (h : ∀ σ', FrD (Dst (some d)) σ σ' → K σ' → K' σ') (hk : mkMap n d t σ K) : mkMap n d t σ K' := by
  unfold mkMap at *
  split at hk
  · rename_i hc; rw [if_pos hc]
    exact h _ ((FrD.put σ (some d) _).trans (.bx _ _ _)) hk
  · exact hk.elim
theorem aop_mf (hI : InlMf S.inl) {o : Oper} {σ : St} {K K' : St → Prop} (h : ∀ σ', FrD (Dst o.dst) σ σ' → K σ' → K' σ') (hk : aop P S n o σ K) : aop P S n o σ K' := by
  have hp : ∀ v, K (σ.put o.dst v) → K' (σ.put o.dst v) := fun v => h _ (.put σ o.dst v)
  unfold aop at *
  split at hk
  · split at hk
    · rename_i hd _; rw [hd] at h; exact mkBox_mf h hk
    · exact hk.elim
  · split at hk
    · rename_i hd
      split at hk
      · rename_i hc; (try simp only); rw [if_pos hc]; rw [hd] at h; exact mkBox_mf h hk
      · exact hk.elim
    · exact hk.elim
  · split at hk
    · split at hk
      · split at hk
        · rename_i hc
          try simp only
          rw [if_pos hc]
          split at hk
          · split at hk
            · rename_i hc2
              rw [if_pos hc2]
              split at hk
              · rename_i d hd
                have hd : o.dst = some d := by
                  unfold ownD at hd
                  split at hd
                  · rename_i d' hd'; split at hd <;> simp_all
                  · cases hd
                rw [hd] at h; exact mkBox_mf h hk
              · exact hp _ hk
            · exact hk.elim
          · exact hk.elim
        · exact hk.elim
      · exact hk.elim
    · exact hk.elim
  · split at hk
    · rename_i hd _; rw [hd] at h; exact mkMap_mf h hk
    · exact hk.elim
  · exact lookupA_mono (fun v hk => hp v hk) hk
  · exact putA_mf (fun σ' h1 h2 => h _ ((h1.weak fun _ => False.elim).trans (.put σ' o.dst _)) h2) hk
  · exact loadA_mono (fun v hk => hp v hk) hk
  · exact storeA_mf (fun σ' h1 h2 => h _ ((h1.weak fun _ => False.elim).trans (.put σ' o.dst _)) h2) hk
  · exact indexAddrA_ang.mono (fun v hk => hp v hk) hk
  · exact indexA_ang.mono (fun v hk => hp v hk) hk
  · exact sliceA_mono (fun v hk => hp v hk) hk
  · split at hk
    · exact hp _ hk
    · split at hk
      · exact hp _ hk
      · exact hk.elim
  · split at hk
    · rename_i hd
      split at hk
      · split at hk
        · rename_i hc
          try simp only
          rw [if_pos hc]
          rw [hd] at h
          exact ⟨hk.1, mkBox_mf h hk.2⟩
        · exact hk.elim
      · exact hk.elim
    · exact hk.elim
  · exact divA_ang.mono (fun v hk => hp v hk) hk
  · exact divA_ang.mono (fun v hk => hp v hk) hk
  · exact divA_ang.mono (fun v hk => hp v hk) hk
  · exact divA_ang.mono (fun v hk => hp v hk) hk
  · split at hk
    · exact fun b hb => hp _ (hk b hb)
    · split at hk
      · exact hp _ hk
      · exact hk.elim
  · split at hk
    · split at hk
      · rename_i hc; rw [if_pos hc]; exact callG_mf h hk
      · rename_i hc; rw [if_neg hc]; exact callX_mf hI h hk
    · split at hk
      · exact callX_mf hI h hk
      · exact hk.elim
    · split at hk
      · split at hk
        · rename_i hm; (try simp only [hm]); exact callX_mf hI h hk
        · exact hk.elim
      · exact hk.elim
    · split at hk
      · rename_i hs hd; rw [hd] at h; (try simp only [hs]); exact appendA_mf h hk
      · exact hk.elim
    · split at hk
      · exact hp _ hk
      · exact hk.elim
  · split at hk
    · exact hp _ hk
    · exact hk.elim

theorem br_mono {b : Bool} {A A' B B' : Prop} (ha : A → A') (hb : B → B') (h : br b A B) : br b A' B' := ⟨fun x => ha (h.1 x), fun x => hb (h.2 x)⟩
def DstL (l : List (Option Nat)) (t : Nat) : Prop := some t ∈ l
theorem aops_mf (hI : InlMf S.inl) {dsts : List (Option Nat)} : ∀ (ops : List Oper) {σ : St} {K K' : St → Prop}, (∀ o ∈ ops, o.dst ∈ dsts) → (∀ σ', FrD (DstL dsts) σ σ' → K σ' → K' σ') → aops P S n dsts ops σ K → aops P S n dsts ops σ K' := by
  intro ops
  induction ops with
  | nil => intro σ K K' _ h hk; exact h _ (.refl ..) hk
  | cons o r ih =>
    intro σ K K' hd h hk
    have hr : ∀ o ∈ r, o.dst ∈ dsts := fun x hx => hd x (List.mem_cons_of_mem _ hx)
    have hdo : ∀ t, Dst o.dst t → DstL dsts t := fun t ht => by have := hd o (by simp); rw [show o.dst = some t from ht] at this; exact this
    have step : ∀ σ1, FrD (DstL dsts) σ σ1 → aops P S n dsts r σ1 K → aops P S n dsts r σ1 K' := fun σ1 h1 hk => ih hr (fun σ' h2 hk => h σ' (h1.trans h2) hk) hk
    have stepO : ∀ σ1, FrD (DstL dsts) σ σ1 → (aop P S n o σ1 fun σ => aops P S n dsts r σ K) → (aop P S n o σ1 fun σ => aops P S n dsts r σ K') := fun σ1 h1 hk => aop_mf hI (fun σ' h2 hk => step σ' (h1.trans (h2.weak hdo)) hk) hk
    have hput : ∀ σ1 v, FrD (DstL dsts) σ σ1 → FrD (DstL dsts) σ (σ1.put o.dst v) := fun σ1 v h1 => h1.trans ((FrD.put σ1 o.dst v).weak hdo)
    unfold aops at hk ⊢
    split at hk
    · exact stepO _ (.refl ..) hk
    · rename_i j want hg
      split at hk
      · rename_i d hj
        have hgd : ∀ v, FrD (DstL dsts) σ (σ.put (some d) v) := fun v => (FrD.put σ (some d) v).weak (fun t ht => by cases ht; exact List.mem_of_getElem? hj)
        split at hk
        · split at hk
          · rename_i hw; rw [if_pos hw]; exact stepO _ (.refl ..) hk
          · rename_i hw; rw [if_neg hw]; exact step _ (hput _ _ (.refl ..)) hk
        · split at hk
          · rename_i hw; rw [if_pos hw]; exact step _ (hput _ _ (.refl ..)) hk
          · rename_i hw; rw [if_neg hw]; exact stepO _ (.refl ..) hk
        · split at hk
          · rename_i hw; rw [if_pos hw]; exact br_mono (stepO _ (hgd _)) (step _ (hput _ _ (hgd _))) hk
          · rename_i hw; rw [if_neg hw]; exact br_mono (step _ (hput _ _ (hgd _))) (stepO _ (hgd _)) hk
        · exact step _ (hput _ _ (.refl ..)) hk
        · exact hk.elim
      · exact hk.elim

theorem mopA_mf {o : Oper} {M : MapA} {σ : St} {K K' : MapA → St → Prop} (h : ∀ M σ', FrD (Dst o.dst) σ σ' → K M σ' → K' M σ') (hk : mopA P o M σ K) : mopA P o M σ K' := by
  have hp : ∀ M v, K M (σ.put o.dst v) → K' M (σ.put o.dst v) := fun M v => h M _ (.put σ o.dst v)
  have hpop : mpopA P o M σ K → mpopA P o M σ K' := fun hk => by
    unfold mpopA at *
    split at hk
    · rename_i hc
      rw [if_pos hc]
      split at hk
      · exact hp _ _ hk
      · exact hk.elim
    · exact hk.elim
  have hget : ∀ b, mgetA M o.dst b σ K → mgetA M o.dst b σ K' := fun b hk => by
    unfold mgetA at *
    split at hk
    · exact hp _ _ hk
    · exact hk.elim
  unfold mopA at hk ⊢
  split at hk
  · split at hk
    · rename_i hc
      rw [if_pos hc]
      exact loadA_mono (fun v hk => hp _ _ hk) hk
    · exact hk.elim
  · split at hk
    · split at hk
      · rename_i hc
        rw [if_pos hc]; exact hp _ _ hk
      · exact hk.elim
    · exact hk.elim
  · split at hk
    · split at hk
      · rename_i hc
        rw [if_pos hc]; exact br_mono (hget _) (hget _) hk
      · exact hk.elim
    · exact hk.elim
  · split at hk
    · rename_i d hd hop
      rw [hd] at h
      split at hk
      · rename_i hc
        rw [if_pos hc]
        split at hk
        · rename_i hc2
          rw [if_pos hc2]; exact h _ _ (.put ..) hk
        · exact hk.elim
      · rename_i hc
        rw [if_neg hc]; exact hpop hk
    · exact hpop hk
  · exact hpop hk
theorem aopsM_mf (hI : InlMf S.inl) {dsts : List (Option Nat)} : ∀ (ops : List Oper) {M : Option MapA} {σ : St} {K K' : St → Prop}, (∀ o ∈ ops, o.dst ∈ dsts) → (∀ σ', FrD (DstL dsts) σ σ' → K σ' → K' σ') → aopsM P S n ops M σ K → aopsM P S n ops M σ K' := by
  intro ops
  induction ops with
  | nil => intro M σ K K' _ h hk; exact h _ (.refl ..) hk
  | cons o r ih =>
    intro M σ K K' hd h hk
    have hr : ∀ o ∈ r, o.dst ∈ dsts := fun x hx => hd x (List.mem_cons_of_mem _ hx)
    have hdo : ∀ t, Dst o.dst t → DstL dsts t := fun t ht => by have := hd o (by simp); rw [show o.dst = some t from ht] at this; exact this
    have step : ∀ M σ1, FrD (DstL dsts) σ σ1 → aopsM P S n r M σ1 K → aopsM P S n r M σ1 K' := fun M σ1 h1 hk => ih hr (fun σ' h2 hk => h σ' (h1.trans h2) hk) hk
    unfold aopsM at hk ⊢
    split at hk
    · exact hk.elim
    · rename_i hg
      rw [if_neg hg]
      split at hk
      · split at hk
        · rename_i d hop hd2
          split at hk
          · rename_i hc
            rw [if_pos hc]; exact step _ _ ((FrD.put σ (some d) _).weak fun t ht => hdo t (by rw [hd2]; exact ht)) hk
          · exact hk.elim
        · exact hk.elim
        · exact aop_mf hI (fun σ' h2 hk => step none σ' (h2.weak hdo) hk) hk
      · exact mopA_mf (fun M σ' h2 hk => step _ σ' (h2.weak hdo) hk) hk
theorem split_mf {g : Bool} {d : Option Nat} {σ : St} {K K' : St → Prop} (h : ∀ σ', FrD (Dst d) σ σ' → K σ' → K' σ') (hk : split g d σ K) : split g d σ K' := by
  unfold split at *
  split at hk
  · split at hk
    · rename_i hb; (try simp only); exact br_mono (h _ (.put ..)) (h _ (.put ..)) hk
    · (try simp only); exact h _ (.refl ..) hk
  · exact h _ (.refl ..) hk
theorem gop_mf (hI : InlMf S.inl) {dsts : List (Option Nat)} {g : Bool} {o : Oper} {σ : St} {K K' : St → Prop} (h : ∀ σ', FrD (Dst o.dst) σ σ' → K σ' → K' σ') (hk : gop P S n dsts g o σ K) : gop P S n dsts g o σ K' := by
  have hs : (aop P S n o σ fun σ => split g o.dst σ K) → (aop P S n o σ fun σ => split g o.dst σ K') := aop_mf hI fun σ1 h1 hk => split_mf (fun σ2 h2 hk => h _ (h1.trans h2) hk) hk
  have hp := h _ (.put σ o.dst (.tup []))
  unfold gop at *
  split at hk
  · exact hs hk
  · split at hk
    · split at hk
      · split at hk
        · rename_i hw; rw [if_pos hw]; exact hs hk
        · rename_i hw; rw [if_neg hw]; exact hp hk
      · split at hk
        · rename_i hw; rw [if_pos hw]; exact hp hk
        · rename_i hw; rw [if_neg hw]; exact hs hk
      · exact hp hk
      · exact hk.elim
    · exact hk.elim
theorem dops_mf (hI : InlMf S.inl) {ops : Array Oper} : ∀ (l : List Nat) {past : List Fp} {σ : St} {K K' : St → Prop}, (∀ σ', FrD (DstL (dstsOf ops.toList)) σ σ' → K σ' → K' σ') → dops P S n ops l past σ K → dops P S n ops l past σ K' := by
  intro l
  induction l with
  | nil => intro past σ K K' h hk; exact h _ (.refl ..) hk
  | cons i r ih =>
    intro past σ K K' h hk
    unfold dops at hk ⊢
    cases ho : ops[i]? with
    | none => rw [ho] at hk; exact hk.elim
    | some o =>
      rw [ho] at hk
      simp only at hk ⊢
      have hdo : ∀ t, Dst o.dst t → DstL (dstsOf ops.toList) t := fun t ht => by
        refine List.mem_map.2 ⟨o, ?_, ht⟩
        have := List.mem_of_getElem? (by rw [← Array.getElem?_toList] at ho; exact ho)
        exact this
      split at hk
      · exact hk.elim
      · split at hk
        · rename_i hc
          rw [if_pos hc]
          refine gop_mf hI (fun σ' h1 hk => ?_) hk
          simp only [forceL_eq] at hk ⊢
          split at hk
          · rename_i hc2
            rw [if_pos hc2]
            exact ih (fun σ'' h2 hk => h _ ((h1.weak hdo).trans h2) hk) hk
          · exact hk.elim
        · exact hk.elim
theorem seqK_mf (hI : InlMf S.inl) {ops : Array Oper} : ∀ (l : List Nat) {σ : St} {K K' : St → Prop}, (∀ σ', FrD (DstL (dstsOf ops.toList)) σ σ' → K σ' → K' σ') → seqK P S n ops l K σ → seqK P S n ops l K' σ := by
  intro l
  induction l with
  | nil => intro σ K K' h hk; exact h _ (.refl ..) hk
  | cons x r ih =>
    intro σ K K' h hk
    unfold seqK at hk ⊢
    split at hk
    · rename_i o ho
      exact gop_mf hI (fun σ2 h2 hk => ih (fun σ3 h3 hk => h σ3 ((h2.weak fun t ht => List.mem_map.2 ⟨o, by simpa using Array.mem_of_getElem? ho, ht⟩).trans h3) hk) hk) hk
    · exact hk.elim
theorem drawA_mf (hI : InlMf S.inl) {ops : Array Oper} {ord : List Nat} {σ : St} {K K' : St → Prop} (h : ∀ σ', FrD (DstL (dstsOf ops.toList)) σ σ' → K σ' → K' σ') (hk : drawA P S n ops ord σ K) : drawA P S n ops ord σ K' := by
  unfold drawA at hk ⊢
  simp only [forceL_eq] at hk ⊢
  split at hk
  · rename_i hc; rw [if_pos hc]; exact dops_mf hI _ h hk
  · rename_i hc
    rw [if_neg hc]
    split at hk
    · rename_i hf
      rw [if_pos hf]
      exact dops_mf hI _ (fun σ' hf hk => seqK_mf hI _ (fun σ2 h2 hk => h σ2 (hf.trans h2) hk) hk) hk
    · exact hk.elim
end
end Go.Proofs.YtblebiafhhhflaaGreat

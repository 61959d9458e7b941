/- Operations in a region whose order is drawn: each looks at its operands and at some boxes, and changes its slot and some boxes, alone. -/
import Derived.Test.YtblebiafhhhflaaGreatR15
namespace Go.Proofs.YtblebiafhhhflaaGreat
open Go.RowKit

mutual
theorem snap_congr {g g' : Nat → Option (List AV)} (v : AV) (h : ∀ t ∈ v.aslcs, g t.1 = g' t.1) : v.snap g = v.snap g' := by
  cases v with
  | aslc b off len esz ag => simp only [AV.snap]; rw [h (b, off + len * esz, esz, ag) (by simp [AV.aslcs])]
  | fn f a b => simp only [AV.snap]; rw [snapL_congr a fun t ht => h t (by simp [AV.aslcs, ht]), snapL_congr b fun t ht => h t (by simp [AV.aslcs, ht])]
  | iface t v => simp only [AV.snap]; rw [snap_congr v fun t ht => h t (by simpa [AV.aslcs] using ht)]
  | agg cs => simp only [AV.snap]; rw [snapL_congr cs fun t ht => h t (by simpa [AV.aslcs] using ht)]
  | tup cs => simp only [AV.snap]; rw [snapL_congr cs fun t ht => h t (by simpa [AV.aslcs] using ht)]
  | _ => rfl
theorem snapL_congr {g g' : Nat → Option (List AV)} (l : List AV) (h : ∀ t ∈ AV.aslcsL l, g t.1 = g' t.1) : AV.snapL g l = AV.snapL g' l := by
  cases l with
  | nil => rfl
  | cons x r => simp only [AV.snapL]; rw [snap_congr x fun t ht => h t (by simp [AV.aslcsL, ht]), snapL_congr r fun t ht => h t (by simp [AV.aslcsL, ht])]
end

theorem withOK_ang {g : Nat → Option (List AV)} {K : Prop} : ∀ {l : List (Nat × Nat × Nat × Bool)}, withOK g l K → K ∧ ∀ (g' : Nat → Option (List AV)) (K' : Prop), (∀ t ∈ l, g t.1 = g' t.1) → K' → withOK g' l K' := by
  intro l
  induction l with
  | nil => intro h; exact ⟨h, fun _ _ _ h => h⟩
  | cons t r ih =>
    obtain ⟨b, m, esz, ag⟩ := t
    intro h
    simp only [withOK] at h
    have key : ∀ (g' : Nat → Option (List AV)) (K' : Prop), (∀ t ∈ (b, m, esz, ag) :: r, g t.1 = g' t.1) → g b = g' b := fun g' K' he => he (b, m, esz, ag) (by simp)
    split at h
    · rename_i cs hb
      split at h
      · rename_i hag
        obtain ⟨h1, h2⟩ := ih h.2
        refine ⟨h1, fun g' K' he hk => ?_⟩
        simp only [withOK, ← key g' K' he, hb, hag, if_true]
        exact ⟨h.1, h2 g' K' (fun t ht => he t (List.mem_cons_of_mem _ ht)) hk⟩
      · rename_i hag
        split at h
        · rename_i hesz
          obtain ⟨h1, h2⟩ := ih h.2
          refine ⟨h1, fun g' K' he hk => ?_⟩
          simp only [withOK, ← key g' K' he, hb]
          rw [if_neg hag, if_pos hesz]
          exact ⟨h.1, h2 g' K' (fun t ht => he t (List.mem_cons_of_mem _ ht)) hk⟩
        · exact h.elim
    · rename_i hb
      obtain ⟨h1, h2⟩ := ih h
      refine ⟨h1, fun g' K' he hk => ?_⟩
      simp only [withOK, ← key g' K' he, hb]
      exact h2 g' K' (fun t ht => he t (List.mem_cons_of_mem _ ht)) hk

/-- What a statement in continuation style chooses it chooses for any continuation. -/
def Ang {α : Type} (F : (α → Prop) → Prop) : Prop := ∀ K, F K → ∃ v, K v ∧ ∀ K', K' v → F K'

theorem foldr_ang {α : Type} {β : Type} {g : β → (List AV → Prop) → Prop} (h : ∀ t, Ang (g t)) (app : List AV → List AV → List AV) : ∀ (l : List β) (acc : List AV),
    Ang (fun K : List AV → Prop => l.foldr (fun t (k : List AV → Prop) acc => g t fun cs => k (app acc cs)) K acc) := by
  intro l
  induction l with
  | nil => intro acc K h; exact ⟨acc, h, fun _ h => h⟩
  | cons t r ih =>
    intro acc K hk
    obtain ⟨cs, h1, h2⟩ := h t _ hk
    obtain ⟨v, h3, h4⟩ := ih (app acc cs) K h1
    exact ⟨v, h3, fun K' hk' => h2 _ (h4 K' hk')⟩
theorem exCells_ang {P : Program} : ∀ (d : Nat) (t : TypeId), Ang (exCells P d t) := by
  intro d
  induction d with
  | zero => intro t K h; exact h.elim
  | succ d ih =>
    intro t K h
    simp only [exCells] at h ⊢
    split at h
    · obtain ⟨b, h⟩ := h; exact ⟨_, h, fun K' h => ⟨b, h⟩⟩
    · obtain ⟨b, h⟩ := h; exact ⟨_, h, fun K' h => ⟨b, h⟩⟩
    · obtain ⟨b, h⟩ := h; exact ⟨_, h, fun K' h => ⟨b, h⟩⟩
    · obtain ⟨b, h⟩ := h; exact ⟨_, h, fun K' h => ⟨b, h⟩⟩
    · exact foldr_ang (α := Unit) (g := fun (f : Field) => exCells P d f.type) (fun f => ih f.type) (fun a b => a ++ b) _ _ K h
    · rename_i n e _
      have key : ∀ (n : Nat) (acc : List AV), Ang (fun K => Nat.rec (motive := fun _ => List AV → Prop) K (fun _ k acc => exCells P d e fun cs => k (acc ++ cs)) n acc) := by
        intro n
        induction n with
        | zero => intro acc K h; exact ⟨acc, h, fun _ h => h⟩
        | succ n ih2 =>
          intro acc K h
          obtain ⟨cs, h1, h2⟩ := ih e _ h
          obtain ⟨v, h3, h4⟩ := ih2 _ K h1
          exact ⟨v, h3, fun K' hk' => h2 _ (h4 K' hk')⟩
      exact key n [] K h
    · obtain ⟨b, h⟩ := h; exact ⟨_, h, fun K' h => ⟨b, h⟩⟩
theorem exT_ang {P : Program} (t : TypeId) : Ang (exT P t) := by
  intro K h
  obtain ⟨cs, h1, h2⟩ := exCells_ang _ _ _ h
  exact ⟨_, h1, fun K' h => h2 _ h⟩
theorem exRes_ang {P : Program} (ts : List TypeId) : Ang (exRes P ts) := by
  intro K h
  match ts with
  | [] => exact ⟨_, h, fun _ h => h⟩
  | [t] => exact exT_ang t K h
  | t :: u :: r =>
    have key : ∀ (l : List TypeId) (acc : List AV), Ang (fun K : List AV → Prop => l.foldr (fun t (k : List AV → Prop) acc => exT P t fun v => k (acc ++ [v])) K acc) := by
      intro l
      induction l with
      | nil => intro acc K h; exact ⟨acc, h, fun _ h => h⟩
      | cons t r ih =>
        intro acc K hk
        have hk : exT P t (fun v => r.foldr (fun t (k : List AV → Prop) acc => exT P t fun v => k (acc ++ [v])) K (acc ++ [v])) := hk
        obtain ⟨v, h1, h2⟩ := exT_ang t _ hk
        obtain ⟨u, h3, h4⟩ := ih _ K h1
        exact ⟨u, h3, fun K' hk' => h2 (fun v => r.foldr (fun t (k : List AV → Prop) acc => exT P t fun v => k (acc ++ [v])) K' (acc ++ [v])) (h4 K' hk')⟩
    obtain ⟨vs, h1, h2⟩ := key (t :: u :: r) [] (fun vs => K (.tup vs)) h
    exact ⟨_, h1, fun K' h => h2 (fun vs => K' (.tup vs)) h⟩
theorem Ang.map {α β : Type} {F : (α → Prop) → Prop} (h : Ang F) (g : α → β) : Ang fun K => F fun v => K (g v) := by
  intro K hk
  obtain ⟨v, h1, h2⟩ := h _ hk
  exact ⟨g v, h1, fun K' hk => h2 _ hk⟩
mutual
theorem exV_ang (x : AV) : Ang (exV x) := by
  cases x with
  | int k n => intro K h; obtain ⟨n, h⟩ := h; exact ⟨_, h, fun K' h => ⟨n, h⟩⟩
  | bool b => intro K h; obtain ⟨n, h⟩ := h; exact ⟨_, h, fun K' h => ⟨n, h⟩⟩
  | str s => intro K h; obtain ⟨n, h⟩ := h; exact ⟨_, h, fun K' h => ⟨n, h⟩⟩
  | slc m es => intro K h; obtain ⟨n, h⟩ := h; exact ⟨_, h, fun K' h => ⟨n, h⟩⟩
  | undef => intro K h; obtain ⟨n, h⟩ := h; exact ⟨_, h, fun K' h => ⟨n, h⟩⟩
  | iface t v => exact (exV_ang v).map _
  | agg cs => exact (exL_ang cs).map _
  | tup cs => exact (exL_ang cs).map _
  | fn f a c =>
    intro K h
    obtain ⟨a', h1, h2⟩ := exL_ang a _ h
    obtain ⟨c', h3, h4⟩ := exL_ang c _ h1
    exact ⟨_, h3, fun K' hk => h2 (fun a => exL c fun c => K' (.fn f a c)) (h4 (fun c => K' (.fn f a' c)) hk)⟩
  | eptr cs off => exact (exL_ang cs).map _
  | _ => intro K h; exact ⟨_, h, fun K' h => h⟩
theorem exL_ang (l : List AV) : Ang (exL l) := by
  cases l with
  | nil => intro K h; exact ⟨_, h, fun K' h => h⟩
  | cons x r =>
    intro K h
    obtain ⟨v, h1, h2⟩ := exV_ang x _ h
    obtain ⟨l, h3, h4⟩ := exL_ang r _ h1
    exact ⟨_, h3, fun K' hk => h2 _ (h4 _ hk)⟩
end
theorem exO_ang : ∀ l : List AV, Ang (exO l) := by
  intro l
  induction l with
  | nil => intro K h; exact h.elim
  | cons x r ih =>
    cases r with
    | nil => exact exV_ang x
    | cons y s =>
      intro K h
      rcases h with h | h
      · obtain ⟨v, h1, h2⟩ := exV_ang x K h
        exact ⟨v, h1, fun K' hk => .inl (h2 K' hk)⟩
      · obtain ⟨v, h1, h2⟩ := ih K h
        exact ⟨v, h1, fun K' hk => .inr (h2 K' hk)⟩
theorem exE_ang {P : Program} {w : Ways} {t : TypeId} : Ang (exE P w t) := by
  unfold exE
  cases w.alts.lookup (1000000 + t) with
  | none => exact exT_ang t
  | some l => exact exO_ang l
theorem exAlt_ang {P : Program} {w : Ways} {f : FuncId} {ts : List TypeId} : Ang (exAlt P w f ts) := by
  unfold exAlt
  cases w.alts.lookup f with
  | none => exact exRes_ang ts
  | some l => exact exO_ang l
theorem selN_ang {j : Int} {F F' : Nat → Prop} : ∀ {n : Nat}, selN j F n → (∀ m, F m → F' m) → selN j F' n := by
  intro n
  induction n with
  | zero => intro h _; trivial
  | succ n ih => intro h hF; exact ⟨fun e => hF _ (h.1 e), ih h.2 hF⟩
theorem idxA_ang {n : Nat} {i : AV} : Ang (idxA n i) := by
  intro F h
  unfold idxA at h
  split at h
  · rename_i k j hi
    split at h
    · rename_i hj
      exact ⟨_, h, fun K' hk => by unfold idxA; rw [hi]; simp only [hj]; exact hk⟩
    · exact h.elim
  · rename_i k j hi
    obtain ⟨hj, hs⟩ := h
    have key : ∀ (m : Nat) (F : Nat → Prop), selN j F m → 0 ≤ j → j < m → F j.toNat := by
      intro m
      induction m with
      | zero => intro F _ h0 h1; omega
      | succ m ih =>
        intro F h h0 h1
        by_cases he : j = (m : Int)
        · have := h.1 he; rw [he]; simpa using this
        · exact ih F h.2 h0 (by omega)
    have key2 : ∀ (F' : Nat → Prop), F' j.toNat → ∀ m, selN j F' m := by
      intro F' hF' m
      induction m with
      | zero => trivial
      | succ m ih => exact ⟨fun he => by rw [he] at hF'; simpa using hF', ih⟩
    exact ⟨_, key n F hs hj.1 hj.2, fun K' hk => by unfold idxA; rw [hi]; exact ⟨hj, key2 K' hk n⟩⟩
  · exact h.elim
theorem indexAddrA_ang {P : Program} {w : Ways} {t : TypeId} {x i : AV} : Ang (indexAddrA P w t x i) := by
  intro K h
  unfold indexAddrA at h
  split at h
  · rename_i ht
    split at h
    · exact h.elim
    · rename_i hu
      split at h
      · obtain ⟨j, h1, h2⟩ := idxA_ang _ h
        refine ⟨_, h1, fun K' hk => ?_⟩
        unfold indexAddrA; rw [ht]; simp only; rw [if_neg hu]
        exact h2 (fun j => K' _) hk
      · obtain ⟨j, h1, h2⟩ := idxA_ang _ h
        refine ⟨_, h1, fun K' hk => ?_⟩
        unfold indexAddrA; rw [ht]; simp only; rw [if_neg hu]
        exact h2 (fun j => K' _) hk
      · exact h.elim
  · rename_i ht
    split at h
    · exact h.elim
    · rename_i hu
      split at h
      · rename_i hi
        obtain ⟨v, h1, h2⟩ := exE_ang _ h
        refine ⟨_, h1.2, fun K' hk => ?_⟩
        unfold indexAddrA; rw [ht]; simp only; rw [if_neg hu, hi]
        exact h2 _ ⟨h1.1, hk⟩
      · rename_i hi
        refine ⟨_, h.2, fun K' hk => ?_⟩
        unfold indexAddrA; rw [ht]; simp only; rw [if_neg hu, hi]
        exact ⟨h.1, hk⟩
      · exact h.elim
  · exact h.elim
theorem indexA_ang {P : Program} {t : TypeId} {x i : AV} : Ang (indexA P t x i) := by
  intro K h
  unfold indexA at h
  split at h
  · rename_i ht
    split at h
    · obtain ⟨j, h1, h2⟩ := idxA_ang _ h
      split at h1
      · rename_i v hv
        refine ⟨v, h1, fun K' hk => ?_⟩
        unfold indexA; rw [ht]
        refine h2 _ ?_
        rw [hv]; exact hk
      · exact h1.elim
    · exact h.elim
  · rename_i ht
    split at h
    · rename_i hi
      obtain ⟨c, h1, h2⟩ := h
      refine ⟨_, h2, fun K' hk => ?_⟩
      unfold indexA; rw [ht]; simp only; rw [hi]
      exact ⟨c, h1, hk⟩
    · exact h.elim
  · exact h.elim
theorem divA_ang {op : BinOp} {x y : AV} : Ang (divA op x y) := by
  intro K h
  unfold divA at h
  split at h
  · rename_i k a l k' b l' hx hy
    cases op <;> simp only at h <;> (repeat' split at h) <;> first | exact h.elim | exact ⟨_, h, fun K' hk => by unfold divA; rw [hx, hy]; simp_all⟩ | exact ⟨_, h.2, fun K' hk => by unfold divA; rw [hx, hy]; simp_all⟩
  · exact h.elim
end Go.Proofs.YtblebiafhhhflaaGreat

/- Heads of loops and joins: what is known there is less than what was known before. -/
import Derived.Test.YtblebiafhhhflaaGreatL1
namespace Go.Proofs.YtblebiafhhhflaaGreat
open Go.RowKit

theorem lookup_mem {α : Type} : ∀ {l : List (Nat × α)} {a : Nat} {b : α}, l.lookup a = some b → (a, b) ∈ l := by
  intro l
  induction l with
  | nil => intro a b h; simp at h
  | cons x r ih =>
    intro a b h
    obtain ⟨k, v⟩ := x
    simp only [List.lookup_cons] at h
    split at h
    · rename_i hk
      simp only [beq_iff_eq] at hk
      cases h; subst hk; simp
    · exact List.mem_cons_of_mem _ (ih h)
theorem lookup_none {α : Type} : ∀ {l : List (Nat × α)} {a : Nat}, l.lookup a = none → ∀ q ∈ l, q.1 ≠ a := by
  intro l
  induction l with
  | nil => intro a h q hq; simp at hq
  | cons x r ih =>
    intro a h q hq
    obtain ⟨k, v⟩ := x
    simp only [List.lookup_cons] at h
    split at h
    · cases h
    · rename_i hk
      simp only [beq_eq_false_iff_ne, ne_eq] at hk
      rcases List.mem_cons.1 hq with rfl | hq
      · exact fun h => hk h.symm
      · exact ih h q hq

theorem nodup_fst {α : Type} : ∀ {l : List (Nat × α)} {a : Nat} {b c : α}, (l.map (·.1)).Nodup → (a, b) ∈ l → (a, c) ∈ l → b = c := by
  intro l
  induction l with
  | nil => intro a b c _ h; simp at h
  | cons x r ih =>
    intro a b c hn hb hc
    simp only [List.map_cons, List.nodup_cons, List.mem_map, not_exists, not_and] at hn
    rcases List.mem_cons.1 hb with hb | hb
    · rcases List.mem_cons.1 hc with hc | hc
      · rw [← hb] at hc; cases hc; rfl
      · exact absurd (by rw [← hb]) (hn.1 _ hc)
    · rcases List.mem_cons.1 hc with hc | hc
      · exact absurd (by rw [← hc]) (hn.1 _ hb)
      · exact ih hn.2 hb hc
theorem fitL_length : ∀ (l m : List AV), fitL l m = true → l.length = m.length := by
  intro l
  induction l with
  | nil => intro m h; cases m with
    | nil => rfl
    | cons _ _ => simp [fitL] at h
  | cons a r ih => intro m h; cases m with
    | nil => simp [fitL] at h
    | cons b s => simp only [fitL, Bool.and_eq_true] at h; simp [ih s h.2]

mutual
theorem ren_tree {h : Nat → Option Nat} (v : AV) (ht : v.tree = true) : v.ren h = v := by
  cases v with
  | ref b off => simp [AV.tree] at ht
  | aslc b off len esz ag => simp [AV.tree] at ht
  | map b => simp [AV.tree] at ht
  | fn f a b =>
    simp only [AV.tree, Bool.and_eq_true] at ht
    simp only [AV.ren]; rw [renL_tree a ht.1, renL_tree b ht.2]
  | iface t v => simp only [AV.ren]; rw [ren_tree v (by simpa [AV.tree] using ht)]
  | agg cs => simp only [AV.ren]; rw [renL_tree cs (by simpa [AV.tree] using ht)]
  | tup cs => simp only [AV.ren]; rw [renL_tree cs (by simpa [AV.tree] using ht)]
  | _ => rfl
theorem renL_tree {h : Nat → Option Nat} (l : List AV) (ht : AV.treeL l = true) : AV.renL h l = l := by
  cases l with
  | nil => rfl
  | cons x r =>
    simp only [AV.treeL, Bool.and_eq_true] at ht
    simp only [AV.renL]; rw [ren_tree x ht.1, renL_tree r ht.2]
end
mutual
theorem ren_fix {h : Nat → Option Nat} (v : AV) (ht : ∀ b ∈ v.refs, h b = some b) : v.ren h = v := by
  cases v with
  | ref b off => simp only [AV.ren]; rw [ht b (by simp [AV.refs])]
  | aslc b off len esz ag => simp only [AV.ren]; rw [ht b (by simp [AV.refs])]
  | map b => simp only [AV.ren]; rw [ht b (by simp [AV.refs])]
  | fn f a b => simp only [AV.ren]; rw [renL_fix a fun b hb => ht b (by simp [AV.refs, hb]), renL_fix b fun b hb => ht b (by simp [AV.refs, hb])]
  | iface t v => simp only [AV.ren]; rw [ren_fix v fun b hb => ht b (by simpa [AV.refs] using hb)]
  | agg cs => simp only [AV.ren]; rw [renL_fix cs fun b hb => ht b (by simpa [AV.refs] using hb)]
  | tup cs => simp only [AV.ren]; rw [renL_fix cs fun b hb => ht b (by simpa [AV.refs] using hb)]
  | _ => rfl
theorem renL_fix {h : Nat → Option Nat} (l : List AV) (ht : ∀ b ∈ AV.refsL l, h b = some b) : AV.renL h l = l := by
  cases l with
  | nil => rfl
  | cons x r => simp only [AV.renL]; rw [ren_fix x fun b hb => ht b (by simp [AV.refsL, hb]), renL_fix r fun b hb => ht b (by simp [AV.refsL, hb])]
end
theorem fixB {h : Nat → Option Nat} {b : Nat} (hb : self h b = true) : h b = some b := by
  unfold self at hb
  cases hh : h b with
  | none => simp [hh] at hb
  | some i => simp only [hh, beq_iff_eq] at hb; rw [hb]
theorem fixed_ren {h : Nat → Option Nat} {v : AV} (hv : v.fixed h = true) : v.ren h = v :=
  ren_fix v fun b hb => fixB (List.all_eq_true.1 hv b hb)

mutual
theorem allV_mono (v : AV) {K K' : AV → Prop} (h : ∀ x, K x → K' x) (hk : allV v K) : allV v K' := by
  cases v with
  | int k n => exact fun n => h _ (hk n)
  | bool b => exact fun n => h _ (hk n)
  | str s => exact fun n => h _ (hk n)
  | slc m es => exact fun n => h _ (hk n)
  | tup vs => exact fun n => h _ (hk n)
  | agg cs => exact allL_mono cs (fun _ hx => h _ hx) hk
  | iface t v => exact allV_mono v (fun _ hx => h _ hx) hk
  | undef => exact fun v ht => h _ (hk v ht)
  | _ => trivial
theorem allL_mono (l : List AV) {K K' : List AV → Prop} (h : ∀ x, K x → K' x) (hk : allL l K) : allL l K' := by
  cases l with
  | nil => exact h _ hk
  | cons x r => exact allV_mono x (fun v hv => allL_mono r (fun l hl => h _ hl) hv) hk
end
mutual
theorem allV_fit (v x : AV) {K : AV → Prop} (hf : fitV v x = true) (hk : allV v K) : K x := by
  cases v with
  | int k n =>
    cases x <;> simp only [fitV, decide_eq_true_eq, Bool.false_eq_true] at hf
    subst hf; exact hk _
  | bool b => cases x <;> simp only [fitV, Bool.false_eq_true] at hf; exact hk _
  | str s => cases x <;> simp only [fitV, Bool.false_eq_true] at hf; exact hk _
  | slc m es =>
    cases x with
    | slc m' es' =>
      have : m' = 3 := by
        unfold fitV at hf
        split at hf <;> simp_all
      subst this; exact hk _
    | _ => simp [fitV] at hf
  | tup vs => cases x <;> simp only [fitV, Bool.false_eq_true] at hf; exact hk _
  | agg cs =>
    cases x <;> simp only [fitV, Bool.false_eq_true] at hf
    exact allL_fit cs _ hf hk
  | iface t v =>
    cases x <;> simp only [fitV, Bool.false_eq_true, Bool.and_eq_true, decide_eq_true_eq] at hf
    obtain ⟨rfl, hf⟩ := hf
    exact allV_fit (K := fun y => K (.iface _ y)) v _ hf hk
  | undef => exact hk x (by simpa [fitV] using hf)
  | _ => simp [fitV] at hf
theorem allL_fit (l xs : List AV) {K : List AV → Prop} (hf : fitL l xs = true) (hk : allL l K) : K xs := by
  cases l with
  | nil =>
    cases xs with
    | nil => exact hk
    | cons _ _ => simp [fitL] at hf
  | cons x r =>
    cases xs with
    | nil => simp [fitL] at hf
    | cons y s =>
      simp only [fitL, Bool.and_eq_true] at hf
      exact allL_fit r s hf.2 (allV_fit x y hf.1 hk)
end
theorem allS_mono : ∀ (m : Nat) {K K' : List (List AV) → Prop}, (∀ x, K x → K' x) → allS m K → allS m K' := by
  intro m
  induction m with
  | zero => intro K K' h hk; exact h _ hk
  | succ m ih => intro K K' h hk es; exact ih (fun l hl => h _ hl) (hk es)
theorem allS_fit : ∀ (m : Nat) {K : List (List AV) → Prop} (ls : List (List AV)), ls.length = m → allS m K → K ls := by
  intro m
  induction m with
  | zero => intro K ls hl hk; have : ls = [] := List.length_eq_zero_iff.1 hl; subst this; exact hk
  | succ m ih =>
    intro K ls hl hk
    cases ls with
    | nil => simp at hl
    | cons x r => exact ih r (by simpa using hl) (hk x)

theorem genVals_spec {σ : St} : ∀ {l : List (Nat × AV)} {gs : List AV}, genVals σ l = some gs → fitL (l.map (·.2)) gs = true ∧ ∀ q ∈ (l.map (·.1)).zip gs, q.2 = (σ.sl.getD q.1 .undef).norm ∧ (σ.sl.getD q.1 .undef).tree = true := by
  intro l
  induction l with
  | nil => intro gs h; cases h; exact ⟨rfl, by simp⟩
  | cons x r ih =>
    obtain ⟨t, sk⟩ := x
    intro gs h
    simp only [genVals] at h
    split at h
    · rename_i hc
      simp only [Bool.and_eq_true] at hc
      obtain ⟨l, hl, rfl⟩ := Option.map_eq_some_iff.1 h
      obtain ⟨h1, h2⟩ := ih hl
      refine ⟨by simp only [List.map_cons, fitL, hc.2, h1, Bool.and_self], fun q hq => ?_⟩
      simp only [List.map_cons, List.zip_cons_cons, List.mem_cons] at hq
      rcases hq with rfl | hq
      · exact ⟨rfl, hc.1⟩
      · exact h2 q hq
    · cases h
theorem bgenVals_spec {σ0 σ : St} : ∀ {l : List (Nat × AV)} {bs : List AV}, bgenVals σ0 σ l = some bs → fitL (l.map (·.2)) bs = true ∧
    ∀ q ∈ l.zip bs, ∃ x y, σ0.bx.getD q.1.1 none = some x ∧ σ.bx.getD q.1.1 none = some y ∧ x.arr = y.arr ∧ (x.arr = true ∨ AV.treeL y.cs = true) ∧ q.2 = .agg (AV.normL y.cs) := by
  intro l
  induction l with
  | nil => intro bs h; cases h; exact ⟨rfl, by simp⟩
  | cons x r ih =>
    obtain ⟨b, sk⟩ := x
    intro bs h
    simp only [bgenVals] at h
    split at h
    · rename_i x y hx hy
      split at h
      · rename_i hc
        simp only [Bool.and_eq_true, Bool.or_eq_true, beq_iff_eq] at hc
        obtain ⟨l, hl, rfl⟩ := Option.map_eq_some_iff.1 h
        obtain ⟨h1, h2⟩ := ih hl
        refine ⟨by simp only [List.map_cons, fitL, hc.2, h1, Bool.and_self], fun q hq => ?_⟩
        simp only [List.zip_cons_cons, List.mem_cons] at hq
        rcases hq with rfl | hq
        · exact ⟨x, y, hx, hy, hc.1.1, hc.1.2, rfl⟩
        · exact h2 q hq
      · cases h
    · cases h
def AppAt (P : Program) (σ : St) (q : Nat × TypeId) (es : List AV) : Prop :=
  ((σ.sl.getD q.1 .undef = .slc 0 [] ∨ σ.sl.getD q.1 .undef = .slc 2 []) ∧ es = []) ∨
  ∃ b x, σ.sl.getD q.1 .undef = .aslc b 0 es.length (P.cellsOf q.2) (isAggT P q.2) ∧ σ.bx.getD b none = some x ∧ x.arr = true ∧ es.flatMap AV.cells = x.cs
theorem appVals_spec {P : Program} {σ : St} : ∀ {l : List (Nat × TypeId)} {C : List (List AV) → Prop}, appVals P σ l C → ∃ ls, C ls ∧ ls.length = l.length ∧ ∀ q ∈ l.zip ls, AppAt P σ q.1 q.2 := by
  intro l
  induction l with
  | nil => intro C h; exact ⟨[], h, rfl, by simp⟩
  | cons x r ih =>
    obtain ⟨t, e⟩ := x
    intro C h
    have fin : ∀ es, AppAt P σ (t, e) es → appVals P σ r (fun l => C (es :: l)) → ∃ ls, C ls ∧ ls.length = r.length + 1 ∧ ∀ q ∈ ((t, e) :: r).zip ls, AppAt P σ q.1 q.2 := by
      intro es h1 h2
      obtain ⟨ls, h3, h4, h5⟩ := ih h2
      refine ⟨es :: ls, h3, by simp [h4], fun q hq => ?_⟩
      simp only [List.zip_cons_cons, List.mem_cons] at hq
      rcases hq with rfl | hq
      · exact h1
      · exact h5 q hq
    simp only [appVals] at h
    split at h
    · rename_i hh; exact fin [] (.inl ⟨.inl hh, rfl⟩) h
    · rename_i hh; exact fin [] (.inl ⟨.inr hh, rfl⟩) h
    · rename_i b off len esz ag hh
      split at h
      · rename_i x hx
        split at h
        · rename_i hc
          simp only [Bool.and_eq_true, beq_iff_eq] at hc
          obtain ⟨⟨⟨ha, rfl⟩, rfl⟩, rfl⟩ := hc
          obtain ⟨es, ⟨h1, h2⟩, h3⟩ := h
          subst h1
          exact fin es (.inr ⟨b, x, hh, hx, ha, h2⟩) h3
        · exact h.elim
      · exact h.elim
    · exact h.elim

theorem keptBx_spec {entry : Bool} {h : Nat → Option Nat} {skip : Nat → Bool} {σ : St} {C : Prop} : ∀ {l : List (Option Bx)} {b0 : Nat}, keptBx entry h skip σ b0 l C → C ∧ ∀ (i : Nat) (x : Bx), l[i]? = some (some x) → skip (b0 + i) = false →
    ∃ y, σ.bx.getD (b0 + i) none = some y ∧ y.arr = x.arr ∧ h (b0 + i) = some (b0 + i) ∧ (x.arr = true ∨ ∀ v ∈ x.cs, v.fixed h = true) ∧ (entry = false → y.cs = x.cs) := by
  intro l
  induction l with
  | nil => intro b0 hk; exact ⟨hk, fun i x hi => by simp at hi⟩
  | cons o r ih =>
    intro b0 hk
    have tail : keptBx entry h skip σ (b0 + 1) r C → (∀ x, o = some x → skip b0 = false →
        ∃ y, σ.bx.getD b0 none = some y ∧ y.arr = x.arr ∧ h b0 = some b0 ∧ (x.arr = true ∨ ∀ v ∈ x.cs, v.fixed h = true) ∧ (entry = false → y.cs = x.cs)) → C ∧ ∀ (i : Nat) (x : Bx), (o :: r)[i]? = some (some x) → skip (b0 + i) = false →
        ∃ y, σ.bx.getD (b0 + i) none = some y ∧ y.arr = x.arr ∧ h (b0 + i) = some (b0 + i) ∧ (x.arr = true ∨ ∀ v ∈ x.cs, v.fixed h = true) ∧ (entry = false → y.cs = x.cs) := by
      intro h1 h2
      obtain ⟨h3, h4⟩ := ih h1
      refine ⟨h3, fun i x hi hs => ?_⟩
      cases i with
      | zero => exact h2 x (by simpa using hi) hs
      | succ i =>
        have : b0 + (i + 1) = b0 + 1 + i := by omega
        rw [this] at hs ⊢
        exact h4 i x (by simpa using hi) hs
    cases o with
    | none => exact tail hk (fun x hx => by cases hx)
    | some x =>
      simp only [keptBx] at hk
      split at hk
      · rename_i hs; exact tail hk (fun y hy hs' => by rw [hs] at hs'; cases hs')
      · split at hk
        · rename_i y hy
          by_cases hc : (y.arr == x.arr && self h b0 && (x.arr || x.cs.all (AV.fixed h))) = true
          · rw [if_pos hc] at hk
            simp only [Bool.and_eq_true, Bool.or_eq_true, beq_iff_eq] at hc
            have hfx : x.arr = true ∨ ∀ v ∈ x.cs, v.fixed h = true := by
              rcases hc.2 with hc | hc
              · exact .inl hc
              · exact .inr (List.all_eq_true.1 hc)
            split at hk
            · rename_i he
              exact tail hk (fun x' hx' _ => by cases hx'; exact ⟨y, hy, hc.1.1, fixB hc.1.2, hfx, fun h => by rw [he] at h; cases h⟩)
            · exact tail hk.2 (fun x' hx' _ => by cases hx'; exact ⟨y, hy, hc.1.1, fixB hc.1.2, hfx, fun _ => hk.1⟩)
          · rw [if_neg hc] at hk; exact hk.elim
        · exact hk.elim

theorem zipWith_mem {α β γ : Type} {f : α → β → γ} {l : List α} {m : List β} {c : γ} (h : c ∈ List.zipWith f l m) : ∃ q ∈ l.zip m, c = f q.1 q.2 := by
  induction l generalizing m with
  | nil => simp at h
  | cons x r ih =>
    cases m with
    | nil => simp at h
    | cons y s =>
      simp only [List.zipWith_cons_cons, List.mem_cons] at h
      rcases h with rfl | h
      · exact ⟨(x, y), by simp, rfl⟩
      · obtain ⟨q, h1, h2⟩ := ih h
        exact ⟨q, by simp [h1], h2⟩

theorem mapIdx_getD {α : Type} {f : Nat → α → α} {l : List α} {d : α} {t : Nat} : (mapI l f).getD t d = if t < l.length then f t (l.getD t d) else d := by
  simp only [List.getD, mapI_get]
  by_cases h : t < l.length
  · simp [h]
  · simp [h]

theorem mapC_len {cs : List AV} (h : cs.length ≠ 1) : mapC cs = none := by
  match cs with
  | [] => rfl
  | [x] => exact absurd rfl h
  | x :: y :: r => rfl
theorem mapC1_relax {h : Nat → Option Nat} {c v : AV} (hr : relax (c.ren h) v) (hm : mapC1 c = none) : mapC1 v = none := by
  rcases hr with rfl | rfl | rfl | ⟨_, b, esz, ag, rfl⟩
  · rfl
  · rw [mapC1_ren]; exact hm
  · rw [mapC1_norm, mapC1_ren]; exact hm
  · rfl
/-- A state of which less is said, its boxes by names that are given. -/
def WkBy (h : Nat → Option Nat) (n : Nat) (σ σ' : St) : Prop :=
  ((∀ b i, h b = some i → i < n → b = i) ∧ True ∧ (∀ b c i, h b = some i → h c = some i → b = c) ∧
    (∀ t, relax ((σ.sl.getD t .undef).ren h) (σ'.sl.getD t .undef)) ∧
    (∀ b' x', σ'.bx.getD b' none = some x' → (∃ b x, h b = some b' ∧ σ.bx.getD b none = some x ∧ x'.arr = x.arr ∧ x'.cs.length = x.cs.length ∧ mapC x'.cs = mapC x.cs ∧
      ∀ j, if x.arr then relaxN (x.cs.getD j .undef) (x'.cs.getD j .undef) else relax ((x.cs.getD j .undef).ren h) (x'.cs.getD j .undef)) ∨ (x'.cs = [] ∧ n ≤ b' ∧ ∀ b, h b ≠ some b'))) ∧
  σ'.sl.length = σ.sl.length
theorem WkBy.weaker {h : Nat → Option Nat} {n : Nat} {σ σ' : St} (hw : WkBy h n σ σ') : Weaker n σ σ' := ⟨⟨h, hw.1⟩, hw.2⟩
theorem setCell1_getD {bx : List (Option Bx)} {b off : Nat} {v : AV} {c : Nat} : (setCell1 bx b off v).getD c none = if c = b then (bx.getD b none).map (fun x => { x with cs := x.cs.set off v }) else bx.getD c none := by
  unfold setCell1
  cases hb : bx.getD b none with
  | none =>
    simp only [Option.map_none]
    split
    · rename_i hc; rw [hc, hb]
    · rfl
  | some x =>
    have hlt : b < bx.length := by
      rcases Nat.lt_or_ge b bx.length with h | h
      · exact h
      · simp [List.getD, List.getElem?_eq_none h] at hb
    simp only [Option.map_some, List.getD]
    split
    · rename_i hc; rw [hc]; simp [hlt]
    · rename_i hc; rw [List.getElem?_set_ne (Ne.symm hc)]
theorem drop1_wk {h : Nat → Option Nat} {n : Nat} {q : Nat × Nat × TypeId} {σ τ : St} {x : Bx} (hx : σ.bx.getD q.1 none = some x) (ha : x.arr = false) (hm : mapC x.cs = none) (ho : q.2.1 < x.cs.length) (hq : h q.1 = some q.1) (hw : WkBy h n (lift1 q σ) τ) : WkBy h n σ (drop1 q τ) := by
  obtain ⟨⟨w1, w2, w3, w4, w5⟩, w6⟩ := hw
  have hl : τ.sl.length = σ.sl.length + 1 := by rw [w6]; simp [lift1]
  have hdl : (drop1 q τ).sl.length = σ.sl.length := by simp [drop1, hl]
  have hsl : ∀ t, t < σ.sl.length → (drop1 q τ).sl.getD t .undef = τ.sl.getD t .undef := by
    intro t ht
    simp only [drop1, List.getD, List.getElem?_take]
    rw [if_pos (by omega)]
  have hlift : ∀ t, (lift1 q σ).sl.getD t .undef = if t < σ.sl.length then σ.sl.getD t .undef else if t = σ.sl.length then cellAt σ q.1 q.2.1 else .undef := by
    intro t
    simp only [lift1, List.getD, List.getElem?_append]
    split
    · rfl
    · rename_i h1
      split
      · rename_i h2; rw [h2]; simp
      · rename_i h2
        rw [List.getElem?_eq_none (by simp; omega)]; rfl
  refine ⟨⟨w1, w2, w3, fun t => ?_, fun b' x' hx' => ?_⟩, hdl⟩
  · rcases Nat.lt_or_ge t σ.sl.length with ht | ht
    · have := w4 t
      rw [hlift, if_pos ht] at this
      rw [hsl t ht]; exact this
    · have e : (drop1 q τ).sl.getD t .undef = .undef := getD_le (by rw [hdl]; exact ht)
      rw [e]; exact .inl rfl
  · simp only [drop1] at hx'
    rw [setCell1_getD] at hx'
    have hlb : ∀ b, (lift1 q σ).bx.getD b none = if b = q.1 then (σ.bx.getD q.1 none).map (fun x => { x with cs := x.cs.set q.2.1 .undef }) else σ.bx.getD b none := fun b => setCell1_getD
    split at hx'
    · rename_i hb
      subst hb
      obtain ⟨y, hy, rfl⟩ := Option.map_eq_some_iff.1 hx'
      rcases w5 q.1 y hy with ⟨b, z, g1, g2, g3, g4, _, g5⟩ | ⟨_, _, g⟩
      · have hbq : b = q.1 := w3 b q.1 q.1 g1 hq
        subst hbq
        rw [hlb, if_pos rfl, hx] at g2
        cases g2
        have hmv : mapC (y.cs.set q.2.1 (τ.sl.getD (τ.sl.length - 1) .undef)) = mapC x.cs := by
          rw [hm]
          simp only [List.length_set] at g4
          by_cases hl1 : x.cs.length = 1
          · have h0 : q.2.1 = 0 := by omega
            have hr := w4 (τ.sl.length - 1)
            rw [hlift, if_neg (by omega), if_pos (by omega)] at hr
            have e2 : cellAt σ q.1 q.2.1 = x.cs.getD q.2.1 .undef := by unfold cellAt; rw [hx]
            rw [e2, h0] at hr
            match hxc : x.cs, hl1 with
            | [c], _ =>
              rw [hxc] at hr hm
              match hyc : y.cs, (show y.cs.length = 1 by rw [g4, hxc]; rfl) with
              | [d], _ =>
                rw [h0]
                show mapC1 _ = none
                exact mapC1_relax hr hm
          · exact mapC_len (by rw [List.length_set, g4]; exact hl1)
        refine .inl ⟨q.1, x, hq, hx, g3, by simpa using g4, hmv, fun j => ?_⟩
        simp only [ha, Bool.false_eq_true, if_false] at g5 ⊢
        simp only [List.length_set] at g4
        by_cases hj : j = q.2.1
        · subst hj
          have e1 : (y.cs.set q.2.1 (τ.sl.getD (τ.sl.length - 1) .undef)).getD q.2.1 .undef = τ.sl.getD (τ.sl.length - 1) .undef := by
            simp only [List.getD, List.getElem?_set_self (by omega : q.2.1 < y.cs.length), Option.getD_some]
          rw [e1]
          have := w4 (τ.sl.length - 1)
          rw [hlift, if_neg (by omega), if_pos (by omega)] at this
          have e2 : cellAt σ q.1 q.2.1 = x.cs.getD q.2.1 .undef := by unfold cellAt; rw [hx]
          rw [e2] at this; exact this
        · have e1 : (y.cs.set q.2.1 (τ.sl.getD (τ.sl.length - 1) .undef)).getD j .undef = y.cs.getD j .undef := by
            simp only [List.getD, List.getElem?_set_ne (Ne.symm hj)]
          rw [e1]
          have := g5 j
          have e2 : (x.cs.set q.2.1 .undef).getD j .undef = x.cs.getD j .undef := by
            simp only [List.getD, List.getElem?_set_ne (Ne.symm hj)]
          rw [e2] at this; exact this
      · exact absurd hq (g q.1)
    · rename_i hb
      rcases w5 b' x' hx' with ⟨b, z, g1, g2, g3, g4, g5⟩ | g
      · have hbq : b ≠ q.1 := by rintro rfl; rw [hq] at g1; exact hb (Option.some.inj g1).symm
        rw [hlb, if_neg hbq] at g2
        exact .inl ⟨b, z, g1, g2, g3, g4, g5⟩
      · exact .inr g
theorem dropC_wk {h : Nat → Option Nat} {n : Nat} : ∀ (cap : List (Nat × Nat × TypeId)) {σ τ : St}, capOK h cap σ = true → WkBy h n (liftC cap σ) τ → WkBy h n σ (dropC cap τ) := by
  intro cap
  induction cap with
  | nil => intro σ τ _ hw; exact hw
  | cons q r ih =>
    intro σ τ hc hw
    simp only [capOK, Bool.and_eq_true] at hc
    obtain ⟨⟨h1, h2⟩, h3⟩ := hc
    split at h1
    · rename_i x hx
      simp only [Bool.and_eq_true, Bool.not_eq_true', decide_eq_true_eq] at h1
      exact drop1_wk hx h1.1.1 (by simpa using h1.1.2) h1.2 (fixB h2) (ih h3 hw)
    · cases h1
theorem liftC_sl : ∀ (cap : List (Nat × Nat × TypeId)) (σ : St), (liftC cap σ).sl.length = σ.sl.length + cap.length ∧ ∀ t, t < σ.sl.length → (liftC cap σ).sl.getD t .undef = σ.sl.getD t .undef := by
  intro cap
  induction cap with
  | nil => intro σ; exact ⟨rfl, fun _ _ => rfl⟩
  | cons q r ih =>
    intro σ
    obtain ⟨h1, h2⟩ := ih (lift1 q σ)
    have hl : (lift1 q σ).sl.length = σ.sl.length + 1 := by simp [lift1]
    refine ⟨by simp only [liftC, h1, hl, List.length_cons]; omega, fun t ht => ?_⟩
    simp only [liftC]
    rw [h2 t (by omega)]
    simp only [lift1, List.getD, List.getElem?_append, if_pos ht]
theorem dropC_sl : ∀ (cap : List (Nat × Nat × TypeId)) (τ : St), cap.length ≤ τ.sl.length → (dropC cap τ).sl.length = τ.sl.length - cap.length ∧ ∀ t, t < τ.sl.length - cap.length → (dropC cap τ).sl.getD t .undef = τ.sl.getD t .undef := by
  intro cap
  induction cap with
  | nil => intro τ _; exact ⟨rfl, fun _ _ => rfl⟩
  | cons q r ih =>
    intro τ hl
    simp only [List.length_cons] at hl
    obtain ⟨h1, h2⟩ := ih τ (by omega)
    refine ⟨by simp only [dropC, drop1, List.length_take, h1, List.length_cons]; omega, fun t ht => ?_⟩
    simp only [List.length_cons] at ht
    have := h2 t (by omega)
    simp only [dropC, drop1, List.getD, List.getElem?_take]
    rw [if_pos (by omega)]
    exact this

section
variable {P : Program} {n : Nat} {keep D : List Nat} {p : Pat} {σ0 σ : St}

theorem toHead_spec {entry : Bool} {C : List AV → Prop} (hlen : σ.sl.length = σ0.sl.length) (hkept : ∀ t, t ∈ keep → t ∉ D → σ.sl.getD t .undef = σ0.sl.getD t .undef) (hen : entry = true → σ0 = σ)
    (hk : toHead P n keep D p entry σ0 σ C) : ∃ gs ls bs, C (headV gs ls bs) ∧ fitL (p.gen.map (·.2)) gs = true ∧ ls.length = p.app.length ∧ fitL (p.bgen.map (·.2)) bs = true ∧ WkBy (p.hOf n σ) n σ (headSt P n keep D p σ0 gs ls bs) := by
  unfold toHead at hk
  split at hk
  case isFalse => exact hk.elim
  rename_i hok
  obtain ⟨hk, hkb⟩ := keptBx_spec hk
  split at hk
  case h_2 => exact hk.elim
  rename_i gs bs hgs hbs
  obtain ⟨ls, hC, hll, hap⟩ := appVals_spec hk
  obtain ⟨hfg, hg⟩ := genVals_spec hgs
  obtain ⟨hfb, hb⟩ := bgenVals_spec hbs
  unfold headOK at hok
  simp only [Bool.and_eq_true, decide_eq_true_eq, List.all_eq_true] at hok
  obtain ⟨⟨⟨hnd, hsd⟩, hbg⟩, hfx⟩ := hok
  refine ⟨gs, ls, bs, hC, hfg, hll, hfb, ⟨⟨?_, trivial, ?_, ?_, ?_⟩, ?_⟩⟩
  · intro b i hb hin
    unfold Pat.hOf hApp at hb
    split at hb
    · rename_i j hj
      cases hb
      have hm := lookup_mem hj
      exfalso
      obtain ⟨q, _, hq⟩ := List.mem_filterMap.1 hm
      split at hq
      · cases hq; omega
      · cases hq
    · split at hb
      · cases hb
      · cases hb; rfl
  · intro b c i hb hc
    have key : ∀ b i, p.hOf n σ b = some i → ((b, i) ∈ appSrc n p σ ∧ ∃ q ∈ p.app, i = n + q.1 ∧ ∃ off len esz ag, σ.sl.getD q.1 .undef = .aslc b off len esz ag) ∨ (b = i ∧ ∀ q ∈ p.app, i ≠ n + q.1) := by
      intro b i hb
      unfold Pat.hOf hApp at hb
      split at hb
      · rename_i j hj
        cases hb
        have hm := lookup_mem hj
        refine .inl ⟨hm, ?_⟩
        obtain ⟨q, hq1, hq⟩ := List.mem_filterMap.1 hm
        refine ⟨q, hq1, ?_⟩
        split at hq
        · rename_i hh; cases hq; exact ⟨rfl, _, _, _, _, hh⟩
        · cases hq
      · split at hb
        · cases hb
        · rename_i hn
          cases hb
          refine .inr ⟨rfl, fun q hq h => hn ?_⟩
          simp only [List.contains_iff_mem, List.mem_map]
          exact ⟨q, hq, h.symm⟩
    rcases key b i hb with ⟨_, q, hq, rfl, _, _, _, _, h1⟩ | ⟨rfl, h1⟩
    · rcases key c _ hc with ⟨_, q', hq', h2, _, _, _, _, h3⟩ | ⟨_, h3⟩
      · have : q.1 = q'.1 := by omega
        rw [this, h3] at h1
        cases h1; rfl
      · exact absurd rfl (h3 q hq)
    · rcases key c _ hc with ⟨_, q', hq', h2, _, _, _, _, h3⟩ | ⟨h2, h3⟩
      · exact absurd h2 (h1 q' hq')
      · exact h2.symm
  · intro t
    simp only [headSt]
    rw [mapIdx_getD]
    split
    case isFalse => exact .inl rfl
    split
    case isFalse => exact .inl rfl
    rename_i hkt
    simp only [List.contains_iff_mem] at hkt
    split
    · rename_i v hv
      rcases List.mem_append.1 (lookup_mem hv) with hv | hv
      · obtain ⟨h1, h2⟩ := hg _ hv
        simp only at h1 h2
        rw [h1, ren_tree _ h2]
        exact .inr (.inr (.inl rfl))
      · obtain ⟨q, hq, he⟩ := zipWith_mem hv
        simp only [Prod.mk.injEq] at he
        obtain ⟨rfl, rfl⟩ := he
        rcases hap q hq with ⟨h1, h2⟩ | ⟨b, x, h1, h2, h3, h4⟩
        · rw [h2]
          refine .inr (.inr (.inr ⟨?_, _, _, _, rfl⟩))
          rcases h1 with h1 | h1 <;> rw [h1]
          · exact .inl rfl
          · exact .inr rfl
        · rw [h1]
          refine .inr (.inl ?_)
          have hin : (b, n + q.1.1) ∈ appSrc n p σ := List.mem_filterMap.2 ⟨q.1, (List.of_mem_zip hq).1, by rw [h1]⟩
          have : p.hOf n σ b = some (n + q.1.1) := by
            unfold Pat.hOf hApp
            cases hl : (appSrc n p σ).lookup b with
            | none => exact absurd rfl (lookup_none hl _ hin)
            | some j =>
              have hm := lookup_mem hl
              rw [nodup_fst hsd hm hin]
          simp only [AV.ren, this]
    · split
      · exact .inl rfl
      · rename_i hD
        simp only [List.contains_iff_mem] at hD
        have h1 := hkept t hkt hD
        have h2 := hfx t hkt
        simp only [Bool.or_eq_true, List.contains_iff_mem, hD, false_or] at h2
        rw [← h1] at h2
        rw [fixed_ren h2, h1]
        exact .inr (.inl rfl)
  · intro b' x' hx'
    simp only [headSt] at hx'
    rw [mapIdx_getD] at hx'
    split at hx'
    case isFalse => cases hx'
    rename_i hblt
    split at hx'
    · rename_i y hy
      cases hx'
      rcases List.mem_append.1 (lookup_mem hy) with hv | hv
      · obtain ⟨q, hq, he⟩ := zipWith_mem hv
        simp only [Prod.mk.injEq] at he
        obtain ⟨rfl, rfl⟩ := he
        rcases hap q hq with ⟨h1, h2⟩ | ⟨b, x, h1, h2, h3, h4⟩
        · refine .inr ⟨by simp [h2], by omega, fun b hb => ?_⟩
          unfold Pat.hOf hApp at hb
          split at hb
          · rename_i j hj
            cases hb
            obtain ⟨q', hq', he⟩ := List.mem_filterMap.1 (lookup_mem hj)
            split at he
            · rename_i hh
              simp only [Option.some.injEq, Prod.mk.injEq] at he
              have : q'.1 = q.1.1 := by omega
              rw [this] at hh
              rcases h1 with h1 | h1 <;> (rw [h1] at hh; cases hh)
            · cases he
          · split at hb
            · cases hb
            · rename_i hn
              cases hb
              exact hn (by simp only [List.contains_iff_mem, List.mem_map]; exact ⟨q.1, (List.of_mem_zip hq).1, rfl⟩)
        · have hin : (b, n + q.1.1) ∈ appSrc n p σ := List.mem_filterMap.2 ⟨q.1, (List.of_mem_zip hq).1, by rw [h1]⟩
          have hhb : p.hOf n σ b = some (n + q.1.1) := by
            unfold Pat.hOf hApp
            cases hl : (appSrc n p σ).lookup b with
            | none => exact absurd rfl (lookup_none hl _ hin)
            | some j =>
              have hm := lookup_mem hl
              rw [nodup_fst hsd hm hin]
          refine .inl ⟨b, x, hhb, h2, h3.symm, by rw [h4], by rw [h4], fun j => ?_⟩
          rw [if_pos h3, h4]
          exact .inr (.inl rfl)
      · obtain ⟨q, hq, he⟩ := zipWith_mem hv
        simp only [Prod.mk.injEq] at he
        obtain ⟨rfl, rfl⟩ := he
        obtain ⟨x, y, h1, h2, h3, h4, h5⟩ := hb q hq
        rw [h1, h5]
        have hhb := fixB (hbg q.1 (List.of_mem_zip hq).1)
        refine .inl ⟨q.1.1, y, hhb, h2, h3, by simp [AV.cells, normL_length], by simp only [AV.cells]; exact mapC_norm _, fun j => ?_⟩
        simp only [AV.cells, normL_getD]
        split
        · exact .inr (.inr rfl)
        · rename_i ha
          have : AV.treeL y.cs = true := by
            rcases h4 with h4 | h4
            · rw [h3] at h4; exact absurd h4 ha
            · exact h4
          rw [ren_tree _ (treeL_getD this j)]
          exact .inr (.inr (.inl rfl))
    · rename_i hnone
      split at hx'
      · cases hx'
      · rename_i hns
        have hskip : ((p.bgen.map (·.1)).contains b' || (p.app.map fun q => n + q.1).contains b' || (appSrc n p σ0).any (fun q => q.1 == b')) = false := by
          rw [Bool.or_eq_false_iff, Bool.or_eq_false_iff]
          have hno := lookup_none hnone
          refine ⟨⟨?_, ?_⟩, by rw [← Bool.not_eq_true]; exact hns⟩
          · rw [Bool.eq_false_iff]
            intro hc
            simp only [List.contains_iff_mem, List.mem_map] at hc
            obtain ⟨q, hq, rfl⟩ := hc
            have hbl : p.bgen.length = bs.length := by simpa using fitL_length _ _ hfb
            obtain ⟨i, hi, hqi⟩ := List.getElem_of_mem hq
            unfold headBx at hno
            have := hno _ (List.mem_append_right _ (List.getElem_mem (n := i) (by simp only [List.length_zipWith]; omega)))
            simp only [List.getElem_zipWith, hqi, ne_eq, not_true_eq_false] at this
          · rw [Bool.eq_false_iff]
            intro hc
            simp only [List.contains_iff_mem, List.mem_map] at hc
            obtain ⟨q, hq, rfl⟩ := hc
            obtain ⟨i, hi, hqi⟩ := List.getElem_of_mem hq
            refine hno (n + q.1, ⟨q.2, true, (ls[i]'(by omega)).flatMap AV.cells⟩) (List.mem_append_left _ ?_) rfl
            rw [List.mem_iff_getElem]
            refine ⟨i, by simp; omega, ?_⟩
            simp only [List.getElem_zipWith, hqi]
        have hl : σ0.bx[b']? = some (some x') := by
          simp only [List.getD] at hx'
          rw [List.getElem?_eq_getElem hblt] at hx' ⊢
          simpa using hx'
        obtain ⟨y, h1, h2, h3, h4, h5⟩ := hkb b' x' hl (by rw [Nat.zero_add]; exact hskip)
        rw [Nat.zero_add] at h1 h3
        have h5 : y.cs = x'.cs := by
          cases entry with
          | false => exact h5 rfl
          | true =>
            rw [hen rfl, h1] at hx'
            cases hx'; rfl
        refine .inl ⟨b', y, h3, h1, h2.symm, by rw [h5], by rw [h5], fun j => ?_⟩
        rw [h5]
        split
        · exact .inr (.inl rfl)
        · rename_i ha
          rcases h4 with h4 | h4
          · rw [h2] at ha; exact absurd h4 ha
          · rcases Nat.lt_or_ge j x'.cs.length with hj | hj
            · have := h4 (x'.cs.getD j .undef) (by simp only [List.getD, List.getElem?_eq_getElem hj, Option.getD_some]; exact List.getElem_mem hj)
              rw [fixed_ren this]
              exact .inr (.inl rfl)
            · rw [getD_le hj]; exact .inl rfl
  · simp only [headSt, mapI_len]; exact hlen.symm
end
end Go.Proofs.YtblebiafhhhflaaGreat

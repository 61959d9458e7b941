/- A region whose order is drawn: what it does in the order of the text it does in any order. -/
import Derived.Test.YtblebiafhhhflaaGreatD4
import Derived.Orders
namespace Go.Proofs.YtblebiafhhhflaaGreat
open Go.RowKit

section
variable {P : Program} {S : Specs} {n : Nat}

theorem fpW_congr {o : Oper} {σ σ1 σ2 : St} (h : σ1.bx = σ2.bx) : fpW n S.frs o σ σ1 = fpW n S.frs o σ σ2 := by unfold fpW; rw [h]
theorem guard_slot {ops : Array Oper} {j d : Nat} (hd : (dstsOf ops.toList)[j]? = some (some d)) : (ops[j]?).bind (·.dst) = some d := by
  simp only [dstsOf, List.getElem?_map, Array.getElem?_toList] at hd
  cases ho : ops[j]? with
  | none => simp [ho] at hd
  | some o => simpa [ho] using hd

/-- What an operation does at a state it does at any that agrees with it in what it looks at. -/
def Does (frs : Ways) (n : Nat) (ops : Array Oper) (o : Oper) (R F : List Nat) (σ : St) (K : St → Prop) (G : St → (St → Prop) → Prop) : Prop :=
  ∃ v U, K (σ.upd o.dst v U) ∧ (∀ e ∈ U, e.1 ∈ fpW n frs o σ (σ.upd o.dst v U) ∧ ∀ x, e.2 = some x → (σ.upd o.dst v U).bx.getD e.1 none = some x) ∧
    ∀ τ, Agree ops o R σ τ → (∀ d ∈ F, FreshP n d τ) → ∀ K', K' (τ.upd o.dst v U) → G τ K'
theorem gop_local {ops : Array Oper} {g : Bool} {o : Oper} {σ : St} {K : St → Prop} {R F : List Nat} (hf : fpR P S.frs o σ = some (R, F)) (h : gop P S n (dstsOf ops.toList) g o σ K) :
    Does S.frs n ops o R F σ K (gop P S n (dstsOf ops.toList) g o) := by
  have run : aop P S n o σ (fun σ => split g o.dst σ K) → Does S.frs n ops o R F σ K (fun τ K' => aop P S n o τ (fun σ => split g o.dst σ K')) := by
    clear h
    intro h
    obtain ⟨v, U, h1, h2, h3⟩ := aop_local hf h
    obtain ⟨dst, op, type, pos, after, guard⟩ := o
    simp only at h1 h2 h3 h ⊢
    have dflt : K (σ.upd dst v U) → (∀ τ : St, σ.sl.length = τ.sl.length → ∀ K' : St → Prop, K' (τ.upd dst v U) → split g dst (τ.upd dst v U) K') → Does S.frs n ops ⟨dst, op, type, pos, after, guard⟩ R F σ K (fun τ K' => aop P S n ⟨dst, op, type, pos, after, guard⟩ τ (fun σ => split g dst σ K')) := fun k1 k2 =>
      ⟨v, U, k1, h2, fun τ ha hF K' hk => h3 τ ha hF _ (k2 τ ha.l1 K' hk)⟩
    cases g with
    | false => exact dflt h1 fun τ _ K' hk => hk
    | true =>
      cases dst with
      | none => exact dflt h1 fun τ _ K' hk => hk
      | some d =>
        by_cases hl : d < σ.sl.length
        · have hv : ∀ τ : St, σ.sl.length = τ.sl.length → (τ.upd (some d) v U).sl.getD d .undef = v := by
            intro τ ht
            have hl' : d < τ.sl.length := ht ▸ hl
            simp only [St.upd, St.put]
            rw [set_getD, if_pos ⟨rfl, hl'⟩]
          have nb : (∀ b, v ≠ .bool b) → ∀ τ : St, σ.sl.length = τ.sl.length → ∀ K' : St → Prop, split true (some d) (τ.upd (some d) v U) K' = K' (τ.upd (some d) v U) := by
            intro hnb τ ht K'
            unfold split
            simp only [hv τ ht]
          by_cases hb : ∃ b, v = .bool b
          · obtain ⟨b, hvb⟩ := hb
            have hss : ∀ (τ : St) (u : AV), (τ.upd (some d) v U).put (some d) u = τ.upd (some d) u U := by
              intro τ u
              simp only [St.upd, St.put, List.set_set]
            have hsp : ∀ τ : St, σ.sl.length = τ.sl.length → ∀ K' : St → Prop, split true (some d) (τ.upd (some d) v U) K' = br b (K' (τ.upd (some d) .tt U)) (K' (τ.upd (some d) .ff U)) := by
              intro τ ht K'
              have := hv τ ht
              unfold split
              simp only [this, hss]
              rw [hvb]
            rw [hsp σ rfl] at h1
            have fin : ∀ u, K (σ.upd (some d) u U) → (∀ (K' : St → Prop) (τ : St), K' (τ.upd (some d) u U) → br b (K' (τ.upd (some d) .tt U)) (K' (τ.upd (some d) .ff U))) → Does S.frs n ops ⟨some d, op, type, pos, after, guard⟩ R F σ K (fun τ K' => aop P S n ⟨some d, op, type, pos, after, guard⟩ τ (fun σ => split true (some d) σ K')) := fun u k1 k2 =>
              ⟨u, U, k1, h2, fun τ ha hF K' hk => h3 τ ha hF _ (by
                rw [hsp τ ha.l1]
                exact k2 K' τ hk)⟩
            cases hb : b with
            | true => exact fin .tt (h1.1 hb) fun K' τ hk => ⟨fun _ => hk, fun e => absurd (hb.symm.trans e) (by decide)⟩
            | false => exact fin .ff (h1.2 hb) fun K' τ hk => ⟨fun e => absurd (hb.symm.trans e) (by decide), fun _ => hk⟩
          · have hnb : ∀ b, v ≠ .bool b := fun b e => hb ⟨b, e⟩
            exact dflt (by rw [nb hnb σ rfl] at h1; exact h1) fun τ ht K' hk => by rw [nb hnb τ ht]; exact hk
        · have hv : ∀ τ : St, σ.sl.length = τ.sl.length → ∀ K' : St → Prop, split true (some d) (τ.upd (some d) v U) K' = K' (τ.upd (some d) v U) := by
            intro τ ht K'
            have hl' : ¬ d < τ.sl.length := ht ▸ hl
            have : (τ.upd (some d) v U).sl.getD d .undef = .undef := by
              simp only [St.upd, St.put]
              rw [set_getD, if_neg (fun e => hl' e.2)]
              simp [List.getD, List.getElem?_eq_none (Nat.le_of_not_lt hl')]
            unfold split
            simp only [this]
          exact dflt (by rw [hv σ rfl] at h1; exact h1) fun τ ht K' hk => by rw [hv τ ht]; exact hk
  have skip : K (σ.put o.dst (.tup [])) → (∀ τ : St, Agree ops o R σ τ → ∀ K' : St → Prop, K' (τ.put o.dst (.tup [])) → gop P S n (dstsOf ops.toList) g o τ K') → Does S.frs n ops o R F σ K (gop P S n (dstsOf ops.toList) g o) := fun k1 k2 =>
    ⟨.tup [], [], by rw [upd_nil]; exact k1, by simp, fun τ ha _ K' hk => k2 τ ha K' (by rw [upd_nil] at hk; exact hk)⟩
  unfold gop at h
  split at h
  · rename_i hg
    obtain ⟨v, U, h1, h2, h3⟩ := run h
    exact ⟨v, U, h1, h2, fun τ ha hF K' hk => by simp only [gop, hg]; exact h3 τ ha hF K' hk⟩
  · rename_i j want hg
    split at h
    · rename_i d hdj
      have hslot : ∀ τ, Agree ops o R σ τ → σ.sl.getD d .undef = τ.sl.getD d .undef := fun τ ha => ha.sl d (by
        simp only [Oper.looksAt, hg, guard_slot hdj]
        simp)
      split at h
      · rename_i hs
        split at h
        · rename_i hw
          obtain ⟨v, U, h1, h2, h3⟩ := run h
          exact ⟨v, U, h1, h2, fun τ ha hF K' hk => by simp only [gop, hg, hdj, ← hslot τ ha, hs]; rw [if_pos hw]; exact h3 τ ha hF K' hk⟩
        · rename_i hw
          exact skip h fun τ ha K' hk => by simp only [gop, hg, hdj, ← hslot τ ha, hs]; rw [if_neg hw]; exact hk
      · rename_i hs
        split at h
        · rename_i hw
          exact skip h fun τ ha K' hk => by simp only [gop, hg, hdj, ← hslot τ ha, hs]; rw [if_pos hw]; exact hk
        · rename_i hw
          obtain ⟨v, U, h1, h2, h3⟩ := run h
          exact ⟨v, U, h1, h2, fun τ ha hF K' hk => by simp only [gop, hg, hdj, ← hslot τ ha, hs]; rw [if_neg hw]; exact h3 τ ha hF K' hk⟩
      · rename_i hs
        exact skip h fun τ ha K' hk => by simp only [gop, hg, hdj, ← hslot τ ha, hs]; exact hk
      · exact h.elim
    · exact h.elim

/-- A step of a region: an operation, with what it yields and the boxes that it changes. -/
structure Stp where
  p : Fp
  v : AV
  U : List (Nat × Option Bx)
def St.stp (σ : St) (s : Stp) : St := σ.upd s.p.o.dst s.v s.U
def Valid (P : Program) (S : Specs) (n : Nat) (ops : Array Oper) (s : Stp) (σ : St) : Prop :=
  ∀ τ, Agree ops s.p.o s.p.R σ τ → (∀ d ∈ s.p.F, FreshP n d τ) → ∀ K', K' (τ.stp s) → gop P S n (dstsOf ops.toList) (isGuard ops s.p.i) s.p.o τ K'
/-- What is known of a step wherever it stands. -/
structure WF (ops : Array Oper) (L : Nat) (s : Stp) : Prop where
  keys : ∀ e ∈ s.U, e.1 ∈ s.p.W
  refs : ∀ e ∈ s.U, ∀ x, e.2 = some x → ∀ f ∈ x.refs, f ∈ s.p.rf
  slot : ∀ d, s.p.o.dst = some d → d < L → ∀ f ∈ s.v.refs, f ∈ s.p.rf
  after : ∀ e ∈ s.p.o.after, e.on < ops.size ∧ e.on ≠ s.p.i
  op : ops[s.p.i]? = some s.p.o
def TrP (P : Program) (S : Specs) (n : Nat) (ops : Array Oper) : St → List Stp → St → Prop
  | σ, [], σk => σ = σk
  | σ, s :: r, σk => Valid P S n ops s σ ∧ TrP P S n ops (σ.stp s) r σk

theorem stp_len (σ : St) (s : Stp) : (σ.stp s).sl.length = σ.sl.length ∧ (σ.stp s).bx.length = σ.bx.length := by
  refine ⟨?_, ?_⟩
  · simp only [St.stp, St.upd]
    cases s.p.o.dst <;> simp [St.put]
  · simp only [St.stp, St.upd]
    have : ∀ (U : List (Nat × Option Bx)) (bx : List (Option Bx)), (U.foldl (fun l e => l.set e.1 e.2) bx).length = bx.length := by
      intro U
      induction U with
      | nil => intro bx; rfl
      | cons e r ih => intro bx; rw [List.foldl_cons, ih, List.length_set]
    exact this _ _
theorem fold_other {U : List (Nat × Option Bx)} {b : Nat} (h : ∀ e ∈ U, e.1 ≠ b) : ∀ bx : List (Option Bx), (U.foldl (fun l e => l.set e.1 e.2) bx)[b]? = bx[b]? := by
  induction U with
  | nil => intro bx; rfl
  | cons e r ih =>
    intro bx
    rw [List.foldl_cons, ih fun e he => h e (List.mem_cons_of_mem _ he), List.getElem?_set_ne (h e (by simp))]
theorem fold_some {U : List (Nat × Option Bx)} {b : Nat} {x : Bx} : ∀ {bx : List (Option Bx)}, (U.foldl (fun l e => l.set e.1 e.2) bx).getD b none = some x → (b, some x) ∈ U ∨ bx.getD b none = some x := by
  induction U with
  | nil => intro bx h; exact .inr h
  | cons e r ih =>
    intro bx h
    rw [List.foldl_cons] at h
    rcases ih h with h | h
    · exact .inl (List.mem_cons_of_mem _ h)
    · rw [box_set] at h
      split at h
      · rename_i hb
        refine .inl ?_
        obtain ⟨k, y⟩ := e
        simp only at h hb
        rw [h, hb.1]; simp
      · exact .inr h
theorem fold_comm {U V : List (Nat × Option Bx)} (h : ∀ e ∈ U, ∀ f ∈ V, e.1 ≠ f.1) (bx : List (Option Bx)) :
    V.foldl (fun l e => l.set e.1 e.2) (U.foldl (fun l e => l.set e.1 e.2) bx) = U.foldl (fun l e => l.set e.1 e.2) (V.foldl (fun l e => l.set e.1 e.2) bx) := by
  have one : ∀ (V : List (Nat × Option Bx)) (k : Nat) (y : Option Bx) (bx : List (Option Bx)), (∀ f ∈ V, k ≠ f.1) → V.foldl (fun l e => l.set e.1 e.2) (bx.set k y) = (V.foldl (fun l e => l.set e.1 e.2) bx).set k y := by
    intro V
    induction V with
    | nil => intro k y bx _; rfl
    | cons f r ih =>
      intro k y bx hk
      rw [List.foldl_cons, List.foldl_cons, List.set_comm _ _ (hk f (by simp)), ih _ _ _ fun f hf => hk f (List.mem_cons_of_mem _ hf)]
  induction U generalizing bx with
  | nil => rfl
  | cons e r ih =>
    rw [List.foldl_cons, List.foldl_cons, ih (fun e he => h e (List.mem_cons_of_mem _ he)), one V e.1 e.2 bx (h e (by simp))]

/-- Two steps that do not touch each other. -/
structure Indep (ops : Array Oper) (a b : Stp) : Prop where
  apart : a.p.o.apart ops b.p.o = true
  wr : ∀ k ∈ a.p.W, k ∉ b.p.R
  rw_ : ∀ k ∈ b.p.W, k ∉ a.p.R
  ww : ∀ k ∈ a.p.W, k ∉ b.p.W

theorem put_other {σ : St} {d : Option Nat} {v : AV} {t : Nat} (h : ∀ e, d = some e → e ≠ t) : (σ.put d v).sl.getD t .undef = σ.sl.getD t .undef := by
  cases d with
  | none => rfl
  | some e =>
    simp only [St.put]
    rw [set_getD, if_neg (fun hh => h e rfl hh.1.symm)]
theorem agree_stp {ops : Array Oper} {L : Nat} {s : Stp} {o : Oper} {R : List Nat} {σ : St} (hw : WF ops L s) (h1 : ∀ d, s.p.o.dst = some d → d ∉ o.looksAt ops) (h2 : ∀ k ∈ s.p.W, k ∉ R) : Agree ops o R σ (σ.stp s) where
  sl t ht := by
    simp only [St.stp, St.upd]
    rw [put_other]
    rintro e he rfl
    exact h1 e he ht
  bx b hb := by
    simp only [St.stp, St.upd, List.getD]
    rw [fold_other fun e he hk => h2 e.1 (hw.keys e he) (hk ▸ hb)]
  l1 := (stp_len σ s).1.symm
  l2 := (stp_len σ s).2.symm
theorem Agree.symm {ops : Array Oper} {o : Oper} {R : List Nat} {σ τ : St} (h : Agree ops o R σ τ) : Agree ops o R τ σ := ⟨fun t ht => (h.sl t ht).symm, fun b hb => (h.bx b hb).symm, h.l1.symm, h.l2.symm⟩
theorem Agree.trans {ops : Array Oper} {o : Oper} {R : List Nat} {σ τ ν : St} (h : Agree ops o R σ τ) (h' : Agree ops o R τ ν) : Agree ops o R σ ν :=
  ⟨fun t ht => (h.sl t ht).trans (h'.sl t ht), fun b hb => (h.bx b hb).trans (h'.bx b hb), h.l1.trans h'.l1, h.l2.trans h'.l2⟩
theorem Valid.move {ops : Array Oper} {s : Stp} {σ τ : St} (h : Valid P S n ops s σ) (ha : Agree ops s.p.o s.p.R σ τ) : Valid P S n ops s τ := fun ν hν hF K' hk => h ν (ha.trans hν) hF K' hk

theorem stp_comm {ops : Array Oper} {L : Nat} {a b : Stp} (ha : WF ops L a) (hb : WF ops L b) (h : Indep ops a b) (σ : St) : (σ.stp a).stp b = (σ.stp b).stp a := by
  obtain ⟨_, h2, _⟩ := Oper.apart_spec h.apart
  have e1 : ((σ.put a.p.o.dst a.v).put b.p.o.dst b.v).sl = ((σ.put b.p.o.dst b.v).put a.p.o.dst a.v).sl := by
    cases hda : a.p.o.dst with
    | none => cases b.p.o.dst <;> rfl
    | some d => cases hdb : b.p.o.dst with
      | none => rfl
      | some e =>
        have hne : d ≠ e := fun he => h2 d hda (by rw [hdb, he])
        simp only [St.put]
        rw [List.set_comm _ _ hne]
  have e2 := fold_comm (U := a.U) (V := b.U) (fun e he f hf hk => h.ww e.1 (ha.keys e he) (hk ▸ hb.keys f hf)) σ.bx
  have e3 : ∀ (τ : St) (bx : List (Option Bx)) (d : Option Nat) (v : AV), (({ sl := τ.sl, bx := bx } : St).put d v).sl = (τ.put d v).sl := by intro τ bx d v; cases d <;> rfl
  simp only [St.stp, St.upd]
  have e4 : (({ sl := (σ.put a.p.o.dst a.v).sl, bx := a.U.foldl (fun l e => l.set e.1 e.2) σ.bx } : St).put b.p.o.dst b.v).sl = ((σ.put a.p.o.dst a.v).put b.p.o.dst b.v).sl := e3 _ _ _ _
  have e5 : (({ sl := (σ.put b.p.o.dst b.v).sl, bx := b.U.foldl (fun l e => l.set e.1 e.2) σ.bx } : St).put a.p.o.dst a.v).sl = ((σ.put b.p.o.dst b.v).put a.p.o.dst a.v).sl := e3 _ _ _ _
  rw [e4, e5, e1, e2]

theorem TrP.swap {ops : Array Oper} {L : Nat} {a b : Stp} {r : List Stp} {σ σk : St} (ha : WF ops L a) (hb : WF ops L b) (hi : Indep ops a b) (h : TrP P S n ops σ (a :: b :: r) σk) : TrP P S n ops σ (b :: a :: r) σk := by
  obtain ⟨h1, h2, h3⟩ := h
  obtain ⟨q1, _, q3⟩ := Oper.apart_spec hi.apart
  refine ⟨h2.move (agree_stp ha q1 hi.wr).symm, h1.move (agree_stp hb q3 hi.rw_), ?_⟩
  rw [← stp_comm ha hb hi]
  exact h3
theorem TrP.bubble {ops : Array Oper} {L : Nat} {s : Stp} {post : List Stp} {σk : St} (hs : WF ops L s) : ∀ (pre : List Stp) (σ : St), (∀ a ∈ pre, WF ops L a ∧ Indep ops a s) → TrP P S n ops σ (pre ++ s :: post) σk → TrP P S n ops σ (s :: (pre ++ post)) σk := by
  intro pre
  induction pre with
  | nil => intro σ _ h; exact h
  | cons a r ih =>
    intro σ hp h
    have h2 := ih (σ.stp a) (fun b hb => hp b (List.mem_cons_of_mem _ hb)) h.2
    exact TrP.swap (hp a (by simp)).1 hs (hp a (by simp)).2 ⟨h.1, h2⟩

theorem FreshP.stp {ops : Array Oper} {d : Nat} {s : Stp} {σ : St} (h : FreshP n d σ) (hw : WF ops σ.sl.length s) (hr : n + d ∉ s.p.rf) : FreshP n d (σ.stp s) := by
  refine ⟨fun t ht => ?_, fun b x hb hx => ?_⟩
  · simp only [St.stp, St.upd]
    cases hd : s.p.o.dst with
    | none => exact h.1 t ht
    | some e =>
      simp only [St.put]
      rw [set_getD]
      split
      · rename_i he
        exact fun hm => hr (hw.slot e hd he.2 _ hm)
      · exact h.1 t ht
  · rcases fold_some hx with h1 | h1
    · exact fun hm => hr (hw.refs _ h1 x rfl _ hm)
    · exact h.2 b x hb h1
end
end Go.Proofs.YtblebiafhhhflaaGreat

/- States taken up anew at a call that is followed, or a round of a loop over a function, and put together again behind it. -/
import Derived.Test.YtblebiafhhhflaaGreatL3
import Derived.Test.YtblebiafhhhflaaGreatD6
namespace Go.Proofs.YtblebiafhhhflaaGreat
open Go.RowKit

section
variable {ds : List Deferred} {n : Nat} {μ0 : Lay} {ρ0 : RO} {w0 : World} {ρ : RO} {μ : Lay} {σ : St} {a : Act} {w : World}

/-- The layout, boxes that are not there forgotten. -/
def norm0 (σ : St) (μ : Lay) : Lay := fun b => if live σ.bx b then μ b else (0, 0)
theorem live_some {bx : List (Option Bx)} {b : Nat} (h : live bx b = true) : ∃ x, bx.getD b none = some x := Option.isSome_iff_exists.1 h
theorem live_of {bx : List (Option Bx)} {b : Nat} {x : Bx} (h : bx.getD b none = some x) : live bx b = true := by unfold live; rw [h]; rfl
theorem live_box {σ : St} {b : Nat} {cs : List AV} (h : σ.box b = some cs) : live σ.bx b = true := by
  obtain ⟨x, hx, -⟩ := box_some h; exact live_of hx
theorem live_lt {bx : List (Option Bx)} {b : Nat} (h : live bx b = true) : b < bx.length := by
  rcases Nat.lt_or_ge b bx.length with hb | hb
  · exact hb
  · unfold live at h; simp [List.getD, List.getElem?_eq_none hb] at h
theorem more_getD {bx : List (Option Bx)} {k b : Nat} : (bx ++ List.replicate k none).getD b none = bx.getD b none := by
  simp only [List.getD, List.getElem?_append]
  split
  · rfl
  · rename_i h
    rw [List.getElem?_eq_none (by omega : bx.length ≤ b)]
    cases hg : (List.replicate k (none : Option Bx))[b - bx.length]? with
    | none => rfl
    | some y => rw [List.eq_of_mem_replicate (List.mem_of_getElem? hg)]; rfl
theorem more_box {sl : List AV} {bx : List (Option Bx)} {k b : Nat} : ({ sl, bx := bx ++ List.replicate k none } : St).box b = ({ sl, bx } : St).box b := by
  unfold St.box; rw [more_getD]
/-- TAKEN UP ANEW: all boxes that are there come in. -/
theorem Sat.restart (hs : Sat ds n μ0 ρ0 w0 ρ μ σ a w) (hl : allLive σ = true) {sl : List AV} {tm : Array Value} (hz : sl.length = tm.size) (hv : ∀ t, Rv ρ (some μ) (sl.getD t .undef) (tm.getD t Go.undef))
    (hlv : ∀ b ∈ AV.refsL sl, live σ.bx b = true) (k : Nat) : Sat [] σ.bx.length (norm0 σ μ) ρ w ρ (norm0 σ μ) ⟨sl, σ.bx ++ List.replicate k none⟩ ⟨tm, []⟩ w := by
  simp only [allLive, Bool.and_eq_true, List.all_eq_true] at hl
  have hμ : ∀ b, live σ.bx b = true → norm0 σ μ b = μ b := fun b hb => by simp only [norm0, hb, if_true]
  have hbx : ∀ b cs, ({ sl, bx := σ.bx ++ List.replicate k none } : St).box b = some cs → σ.box b = some cs := fun b cs h => by rw [more_box] at h; exact h
  refine { dfe := rfl, defs := .nil _ _ _, sz := hz, sl := fun t => (hv t).lay fun b hb => hμ b (hlv b (mem_refsL hb)), box := fun b x hx => ?_, inj := fun b b' cs cs' h h' hne hk hk' => ?_, sep := fun b cs h hk => ?_, own := fun b cs h hk hn => ?_, inc := fun _ _ => rfl, ro := hs.ro, le := RO.le_refl ρ, new := fun k o h h0 => (by rw [h0] at h; cases h), frame := fun _ _ _ => rfl, size := Nat.le_refl _, os := rfl, tape := rfl, output := rfl }
  · simp only [more_getD] at hx
    have hb := live_of hx
    obtain ⟨h1, h2⟩ := hs.box b x hx
    refine ⟨by rw [hμ b hb]; exact h1, ?_⟩
    rw [hμ b hb]
    rcases h2 with h2 | ⟨o, h3, h5⟩
    · exact .inl h2
    · refine .inr ⟨o, h3, h5.imp rfl fun j cv h6 => ?_⟩
      unfold lev at h6 ⊢
      split
      · rename_i ha; rw [if_pos ha] at h6; exact h6
      · rename_i ha
        rw [if_neg ha] at h6
        refine h6.lay fun b' hb' => hμ b' ?_
        have hm : some x ∈ σ.bx := by
          simp only [List.getD] at hx
          cases hg : σ.bx[b]? with
          | none => rw [hg] at hx; cases hx
          | some y => rw [hg] at hx; simp only [Option.getD_some] at hx; subst hx; exact List.mem_of_getElem? hg
        have := hl.2 _ hm
        simp only [List.all_eq_true] at this
        exact this b' (by unfold Bx.refs; rw [if_neg ha]; exact mem_refsL hb')
  · have h1 := hbx b cs h
    have h2 := hbx b' cs' h'
    rw [hμ b (live_box h1), hμ b' (live_box h2)] at *
    exact hs.inj b b' cs cs' h1 h2 hne hk hk'
  · have h1 := hbx b cs h
    rw [hμ b (live_box h1)] at *
    exact hs.sep b cs h1 hk
  · have := live_lt (live_box (hbx b cs h)); omega
def joinL (n : Nat) (μ μ1 : Lay) : Lay := fun b => if b < n then μ b else μ1 b
/-- The names below n that are there stay as they are laid. -/
theorem compose_lay {μ1 : Lay} {σ1 : St} {ds1 : List Deferred} {ρ1 : RO} {a1 : Act} {w1 : World} (hi : Sat ds1 σ.bx.length (norm0 σ μ) ρ w ρ1 μ1 σ1 a1 w1) (hb : backOK n σ.bx σ1.bx = true) {b : Nat} (h : live σ1.bx b = true) :
    joinL n μ μ1 b = μ1 b := by
  simp only [backOK, Bool.and_eq_true, List.all_eq_true, List.mem_range] at hb
  show (if b < n then μ b else μ1 b) = _
  split
  · rename_i hn
    have h1 := hb.1 b hn
    rw [h] at h1
    have h1 : live σ.bx b = true := by simpa using h1
    rw [hi.inc b (live_lt h1)]
    simp only [norm0, h1, if_true]
  · rfl
/-- PUT TOGETHER AGAIN. -/
theorem Sat.compose (hs : Sat ds n μ0 ρ0 w0 ρ μ σ a w) (hl : allLive σ = true) {ρ1 : RO} {μ1 : Lay} {σ1 : St} {a1 : Act} {w1 : World} {ds1 : List Deferred} (hi : Sat ds1 σ.bx.length (norm0 σ μ) ρ w ρ1 μ1 σ1 a1 w1)
    (hb : backOK n σ.bx σ1.bx = true) : Sat ds n μ0 ρ0 w0 ρ1 (joinL n μ μ1) ⟨σ.sl, σ1.bx⟩ a w1 := by
  simp only [allLive, Bool.and_eq_true, List.all_eq_true] at hl
  have lay := fun {b : Nat} (h : live σ1.bx b = true) => compose_lay hi hb h
  have hb2 := hb
  simp only [backOK, Bool.and_eq_true, List.all_eq_true, List.mem_range] at hb2
  have hbox : ∀ b cs, (⟨σ.sl, σ1.bx⟩ : St).box b = some cs → σ1.box b = some cs := fun b cs h => h
  have hμ : ∀ b, live σ.bx b = true → joinL n μ μ1 b = μ b := fun b hb => by
    show (if b < n then μ b else μ1 b) = _
    split
    · rfl
    · rw [hi.inc b (live_lt hb)]; simp only [norm0, hb, if_true]
  have lift : ∀ k, Own σ.bx.length (norm0 σ μ) w k → Own n μ0 w0 k := by
    rintro k (h | ⟨c, hc, h0, rfl⟩)
    · have := hs.size; exact .inl (by omega)
    · unfold norm0 at h0 ⊢
      split at h0
      · rename_i hlv
        rw [if_pos hlv]
        obtain ⟨x, hx⟩ := live_some hlv
        exact hs.ownA (box_bx hx) h0
      · exact absurd rfl h0
  refine { dfe := hs.dfe, defs := hs.defs.mono hi.le, sz := hs.sz, sl := fun t => ((hs.sl t).lay fun b hb => hμ b (hl.1 b (mem_refsL hb))).mono hi.le, box := fun b x hx => ?_, inj := fun b b' cs cs' h h' hne hk hk' => ?_, sep := fun b cs h hk => ?_, own := fun b cs h hk hb => ?_, inc := fun b hb => ?_, ro := hi.ro, le := hs.le.trans hi.le, new := fun k o h h0 => ?_, frame := fun k hk hb => ?_, size := Nat.le_trans hs.size hi.size, os := hi.os.trans hs.os, tape := hi.tape.trans hs.tape, output := hi.output.trans hs.output }
  · obtain ⟨h1, h2⟩ := hi.box b x hx
    have hb' := lay (live_of hx)
    refine ⟨by rw [hb']; exact h1, ?_⟩
    rw [hb']
    rcases h2 with h2 | ⟨o, h3, h5⟩
    · exact .inl h2
    · refine .inr ⟨o, h3, h5.imp rfl fun j cv h6 => ?_⟩
      unfold lev at h6 ⊢
      split
      · rename_i ha; rw [if_pos ha] at h6; exact h6
      · rename_i ha
        rw [if_neg ha] at h6
        refine h6.lay fun b' hb' => lay ?_
        have hm : some x ∈ σ1.bx := by
          simp only [List.getD] at hx
          cases hg : σ1.bx[b]? with
          | none => rw [hg] at hx; cases hx
          | some y => rw [hg] at hx; simp only [Option.getD_some] at hx; subst hx; exact List.mem_of_getElem? hg
        have := hb2.2 _ hm
        simp only [List.all_eq_true] at this
        exact this b' (by unfold Bx.refs; rw [if_neg ha]; exact mem_refsL hb')
  · have h1 := lay (live_box (hbox b cs h))
    have h2 := lay (live_box (hbox b' cs' h'))
    rw [h1] at hk ⊢
    rw [h2] at hk' ⊢
    exact hi.inj b b' cs cs' h h' hne hk hk'
  · have h1 := lay (live_box (hbox b cs h))
    rw [h1] at hk ⊢
    exact hi.sep b cs h hk
  · have h1 := lay (live_box (hbox b cs h))
    rw [h1] at hk ⊢
    rcases Nat.lt_or_ge b σ.bx.length with hlt | hge
    · rw [hi.inc b hlt] at hk ⊢
      unfold norm0 at hk ⊢
      split at hk
      · rename_i hb'
        rw [if_pos hb']
        obtain ⟨x, hx⟩ := live_some hb'
        exact hs.own b _ (box_bx hx) hk hb
      · exact absurd rfl hk
    · exact lift _ (hi.own b cs h hk hge)
  · show (if b < n then μ b else μ1 b) = _
    rw [if_pos hb, hs.inc b hb]
  · cases hk : ρ k with
    | some o' => exact hs.new k o' hk h0
    | none => exact lift _ (hi.new k o h hk)
  · rw [hi.frame k (by have := hs.size; omega) fun b hb' hk' he => ?_]
    · exact hs.frame k hk hb
    · unfold norm0 at hk' he
      split at hk'
      · rename_i hlv
        rw [if_pos hlv] at he
        rcases Nat.lt_or_ge b n with hbn | hbn
        · rw [hs.inc b hbn] at hk' he
          exact hb b hbn hk' he
        · obtain ⟨x, hx⟩ := live_some hlv
          rcases hs.own b _ (box_bx hx) hk' hbn with h' | ⟨c, hc, h0, he'⟩
          · omega
          · exact hb c hc h0 (he.trans he')
      · exact absurd rfl hk'
/-- Blocks that are nobody's here turn. -/
theorem Sat.turn (hs : Sat ds n μ0 ρ0 w0 ρ μ σ a w) {T : Nat → Prop} {w' : World} (hsz : w.heap.size ≤ w'.heap.size) (hT : ∀ k, k < w.heap.size → ¬ T k → w'.heap[k]? = w.heap[k]?) (hro : ∀ k, T k → ρ k = none)
    (hbx : ∀ b x, σ.bx.getD b none = some x → (μ b).2 ≠ 0 → ¬ T (μ b).1) (hown : ∀ k, T k → Own n μ0 w0 k) (hos : w'.os = w.os) (ht : w'.tape = w.tape) (hout : w'.output = w.output) : Sat ds n μ0 ρ0 w0 ρ μ σ a w' :=
  { hs with
    box := fun b x hx => by
      obtain ⟨h1, h2⟩ := hs.box b x hx
      refine ⟨h1, ?_⟩
      by_cases hk : (μ b).2 = 0
      · exact .inl hk
      · rcases h2 with h2 | ⟨o, h3, h5⟩
        · exact absurd h2 hk
        · exact .inr ⟨o, by rw [hT _ (Array.getElem?_eq_some_iff.1 h3).1 (hbx b x hx hk)]; exact h3, h5⟩
    ro := fun k o hk => by
      have := hs.ro k o hk
      rw [hT k (Array.getElem?_eq_some_iff.1 this).1 (fun h => by rw [hro k h] at hk; cases hk)]
      exact this
    frame := fun k hk hb => by
      rw [hT k (by have := hs.size; omega) (fun h => by
        rcases hown k h with h' | ⟨c, hc, h0, he⟩
        · omega
        · exact hb c hc h0 he)]
      exact hs.frame k hk hb
    size := Nat.le_trans hs.size hsz
    os := hos.trans hs.os
    tape := ht.trans hs.tape
    output := hout.trans hs.output }
/-- Less is there. -/
theorem Sat.sub (hs : Sat ds n μ0 ρ0 w0 ρ μ σ a w) {τ : St} (hl : τ.sl.length = σ.sl.length) (hsl : ∀ t, τ.sl.getD t .undef = σ.sl.getD t .undef ∨ τ.sl.getD t .undef = .undef)
    (hbx : ∀ b x, τ.bx.getD b none = some x → σ.bx.getD b none = some x) : Sat ds n μ0 ρ0 w0 ρ μ τ a w := by
  have hbox : ∀ b cs, τ.box b = some cs → σ.box b = some cs := fun b cs h => by
    obtain ⟨x, hx, rfl⟩ := box_some h
    exact box_bx (hbx b x hx)
  exact { hs with
    sz := by rw [hl]; exact hs.sz
    sl := fun t => by
      rcases hsl t with h | h <;> rw [h]
      · exact hs.sl t
      · exact .undef ..
    box := fun b x hx => hs.box b x (hbx b x hx)
    inj := fun b b' cs cs' h h' => hs.inj b b' cs cs' (hbox b cs h) (hbox b' cs' h')
    sep := fun b cs h => hs.sep b cs (hbox b cs h)
    own := fun b cs h => hs.own b cs (hbox b cs h) }
/-- A mark more. -/
theorem Sat.mark (hs : Sat ds n μ0 ρ0 w0 ρ μ σ a w) {D : Nat} (h1 : ρ D = some (.deferred (some []))) (h2 : ρ0 D = none) (h3 : w0.heap.size ≤ D) (h4 : ∀ d ∈ ds, d ≠ { target := .collected D, args := #[] }) :
    Sat ({ target := .collected D, args := #[] } :: ds) n μ0 ρ0 w0 ρ μ σ { a with defers := { target := .collected D, args := #[] } :: a.defers } w := by
  obtain ⟨Ds, e1, e2, e3⟩ := hs.defs
  refine { hs with dfe := by simp [hs.dfe], defs := ⟨D :: Ds, by simp [e1], List.nodup_cons.2 ⟨fun hm => ?_, e2⟩, fun D' hD' => ?_⟩ }
  · refine h4 { target := .collected D, args := #[] } ?_ rfl
    rw [e1]; exact List.mem_map.2 ⟨D, hm, rfl⟩
  · rcases List.mem_cons.1 hD' with rfl | hD'
    · exact ⟨h1, h2, h3⟩
    · exact e3 D' hD'
/-- Blocks that were nobody's when a state was taken up anew are so later. -/
theorem Sat.apart (hi : Sat ds n μ0 ρ0 w0 ρ μ σ a w) {T : Nat → Prop} (h : ∀ b, b < n → (μ0 b).2 ≠ 0 → ¬ T (μ0 b).1) (hT : ∀ k, T k → k < w0.heap.size) : ∀ b x, σ.bx.getD b none = some x → (μ b).2 ≠ 0 → ¬ T (μ b).1 := by
  intro b x hx hk ht
  rcases Nat.lt_or_ge b n with hb | hb
  · rw [hi.inc b hb] at hk ht
    exact h b hb hk ht
  · rcases hi.own b _ (box_bx hx) hk hb with h' | ⟨c, hc, h0, he⟩
    · have := hT _ ht
      omega
    · exact h c hc h0 (he ▸ ht)
theorem Sat.apart_ro (hi : Sat ds n μ0 ρ0 w0 ρ μ σ a w) {T : Nat → Prop} (h : ∀ k, T k → ρ0 k = none) (hT : ∀ k, T k → k < w0.heap.size) (hb : ∀ b, b < n → (μ0 b).2 ≠ 0 → ¬ T (μ0 b).1) : ∀ k, T k → ρ k = none := by
  intro k hk
  cases hr : ρ k with
  | none => rfl
  | some o =>
    rcases hi.new k o hr (h k hk) with h' | ⟨c, hc, h0, he⟩
    · have := hT k hk; omega
    · exact absurd (he ▸ hk) (hb c hc h0)
open Classical in
/-- Less is said, boxes by other names; blocks that are nobody's stay so. -/
theorem Sat.weakenT {σ' : St} (hs : Sat ds n μ0 ρ0 w0 ρ μ σ a w) (hw : Weaker n σ σ') {T : Nat → Prop} (hT : ∀ b x, σ.bx.getD b none = some x → (μ b).2 ≠ 0 → ¬ T (μ b).1) :
    ∃ μ', Sat ds n μ0 ρ0 w0 ρ μ' σ' a w ∧ ∀ b x, σ'.bx.getD b none = some x → (μ' b).2 ≠ 0 → ¬ T (μ' b).1 := by
  obtain ⟨⟨h, h1, h2, h3, h4, h5⟩, hl⟩ := hw
  let μ' : Lay := fun b' => if b' < n then μ b' else if hx : ∃ b, h b = some b' then μ (Classical.choose hx) else (0, 0)
  have hμ : ∀ b b', h b = some b' → μ' b' = μ b := by
    intro b b' hb
    by_cases hlt : b' < n
    · simp only [μ', if_pos hlt]; rw [h1 b b' hb hlt]
    have hx : ∃ b, h b = some b' := ⟨b, hb⟩
    simp only [μ', if_neg hlt, dif_pos hx]
    rw [h3 _ b b' (Classical.choose_spec hx) hb]
  have hμ0 : ∀ b', n ≤ b' → (∀ b, h b ≠ some b') → μ' b' = (0, 0) := by
    intro b' hn hb
    simp only [μ']
    rw [if_neg (by omega), dif_neg (fun ⟨b, hx⟩ => hb b hx)]
  have hlive : ∀ b' x', σ'.bx.getD b' none = some x' → (μ' b').2 ≠ 0 → ∃ b x, h b = some b' ∧ σ.bx.getD b none = some x := by
    intro b' x' hx' hk
    rcases h5 b' x' hx' with ⟨b, x, g1, g2, _⟩ | ⟨_, gn, g⟩
    · exact ⟨b, x, g1, g2⟩
    · rw [hμ0 b' gn g] at hk; exact absurd rfl hk
  refine ⟨μ', { hs with sz := by rw [hl]; exact hs.sz, sl := fun t => relax_rv (h4 t) ((hs.sl t).ren hμ), box := ?_, inj := ?_, sep := ?_, own := ?_, inc := ?_ }, fun b' x' hx' hk => ?_⟩
  · intro b' x' hx'
    rcases h5 b' x' hx' with ⟨b, x, g1, g2, g3, g4, g6, g5⟩ | ⟨g1, gn, g⟩
    · obtain ⟨k1, k2⟩ := hs.box b x g2
      have hm := hμ b b' g1
      refine ⟨by rw [hm, g4]; exact k1, ?_⟩
      rw [hm]
      rcases k2 with k2 | ⟨o, k3, k5⟩
      · exact .inl k2
      · refine .inr ⟨o, k3, k5.imp g6 fun j cv h7 => ?_⟩
        have h6 := g5 j
        unfold lev at h7 ⊢
        rw [g3]
        by_cases ha : x.arr = true
        · rw [if_pos ha] at h6 h7 ⊢
          exact relaxN_rv h6 h7
        · rw [if_neg ha] at h6 h7 ⊢
          exact relax_rv h6 (h7.ren hμ)
    · exact ⟨by rw [g1]; exact Nat.zero_le _, .inl (by rw [hμ0 b' gn g])⟩
  · intro b b' cs cs' hb hb' hne hk hk'
    obtain ⟨y, hy, -⟩ := box_some hb
    obtain ⟨y', hy', -⟩ := box_some hb'
    obtain ⟨c, x, g1, g2⟩ := hlive b y hy hk
    obtain ⟨c', x', g1', g2'⟩ := hlive b' y' hy' hk'
    rw [hμ c b g1, hμ c' b' g1'] at *
    refine hs.inj c c' _ _ (box_bx g2) (box_bx g2') ?_ hk hk'
    rintro rfl
    rw [g1] at g1'
    exact hne (Option.some.inj g1')
  · intro b cs hb hk
    obtain ⟨y, hy, -⟩ := box_some hb
    obtain ⟨c, x, g1, g2⟩ := hlive b y hy hk
    rw [hμ c b g1] at *
    exact hs.sep c _ (box_bx g2) hk
  · intro b cs hb hk hn
    obtain ⟨y, hy, -⟩ := box_some hb
    obtain ⟨c, x, g1, g2⟩ := hlive b y hy hk
    rw [hμ c b g1] at *
    exact hs.ownA (box_bx g2) hk
  · intro b hb
    simp only [μ', if_pos hb]; exact hs.inc b hb
  · obtain ⟨c, x, g1, g2⟩ := hlive b' x' hx' hk
    rw [hμ c b' g1] at *
    exact hT c x g2 hk
end
end Go.Proofs.YtblebiafhhhflaaGreat

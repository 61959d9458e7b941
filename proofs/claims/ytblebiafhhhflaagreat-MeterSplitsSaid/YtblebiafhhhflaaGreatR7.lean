/- Stores, slices of slices, new boxes. -/
import Derived.Test.YtblebiafhhhflaaGreatR6
namespace Go.Proofs.YtblebiafhhhflaaGreat
open Go.RowKit

theorem storeCells_spec {P : Program} {B off : Nat} {e : TypeId} : ∀ (vs : List Value) (i : Nat) (w : World) (c : Array Value), w.heap[B]? = some (.cells c e (0, 0)) → (∀ v ∈ vs, v.oneCell' = true) → off + i + vs.length ≤ c.size →
    ∃ w' c', (storeCells ⟨B, off, none⟩ vs i).run P w = .ok () w' ∧ SameBut B w w' ∧ w'.heap[B]? = some (.cells c' e (0, 0)) ∧ c'.size = c.size ∧
      ∀ j, c'.getD j Go.undef = if off + i ≤ j ∧ j < off + i + vs.length then vs.getD (j - off - i) Go.undef else c.getD j Go.undef := by
  intro vs
  induction vs with
  | nil => intro i w c h _ _; exact ⟨w, c, rfl, SameBut.refl B w, h, rfl, fun j => by simp; omega⟩
  | cons v r ih =>
    intro i w c h hv hl
    simp only [List.length_cons] at hl
    have hlt : off + i < c.size := by omega
    have hcell : w.cell? ⟨B, off + i, none⟩ = some c[off + i] := by rw [cell_of_blk h]; simp [hlt]
    have hfr : w.frozen? ⟨B, off + i, none⟩ = false := by unfold World.frozen?; rw [h]; simp
    have h1 : (w.setCell ⟨B, off + i, none⟩ v).heap[B]? = some (.cells (c.setIfInBounds (off + i) v) e (0, 0)) := by
      simp only [World.setCell, Array.getElem?_modify, if_true, h]
      simp
    obtain ⟨w', c', h2, h3, h4, h5, h6⟩ := ih (i + 1) (w.setCell ⟨B, off + i, none⟩ v) (c.setIfInBounds (off + i) v) h1 (fun u hu => hv u (by simp [hu])) (by simp; omega)
    refine ⟨w', c', ?_, ?_, h4, by rw [h5]; simp, fun j => ?_⟩
    · simp only [storeCells, Sem.run_bind, add_addr]
      rw [run_store P w _ v _ (hv v (by simp)), hcell]
      simp only [hfr, Bool.false_eq_true, if_false, Result.andThen_ok]
      exact h2
    · refine ⟨h3.os, h3.tape, h3.output, ?_, fun k hk => ?_⟩
      · have := h3.size; simpa using this
      · rw [h3.block k hk]
        simp only [World.setCell, Array.getElem?_modify]
        rw [if_neg (by simpa using Ne.symm hk)]
    · rw [h6 j, setIf_getD]
      by_cases hj : off + (i + 1) ≤ j ∧ j < off + (i + 1) + r.length
      · rw [if_pos hj, if_pos (by simp; omega)]
        have : j - off - i = (j - off - (i + 1)) + 1 := by omega
        rw [this]; rfl
      · rw [if_neg hj]
        by_cases he : j = off + i
        · subst he
          rw [if_pos ⟨rfl, hlt⟩, if_pos (by simp)]
          simp
        · rw [if_neg (fun h => he h.1), if_neg (by simp; omega)]

section
variable {ds : List Deferred} {n : Nat} {μ0 : Lay} {ρ0 : RO} {w0 : World} {ρ : RO} {μ : Lay} {σ : St} {a : Act} {w : World}

theorem lt_of_bx {bx : List (Option Bx)} {b : Nat} {x : Bx} (h : bx.getD b none = some x) : b < bx.length := by
  rcases Nat.lt_or_ge b bx.length with hl | hl
  · exact hl
  · simp [List.getD, List.getElem?_eq_none hl] at h

theorem Sat.rebox (hs : Sat ds n μ0 ρ0 w0 ρ μ σ a w) {b : Nat} {x : Bx} {cs : List AV} {w' : World} {o : Obj} (hb : σ.bx.getD b none = some x) (hk : (μ b).2 ≠ 0)
    (hw : SameBut (μ b).1 w w') (hB : w'.heap[(μ b).1]? = some o) (hc : ObjR ρ (lev μ x) cs (μ b).2 o) (hl : cs.length ≤ (μ b).2) :
    Sat ds n μ0 ρ0 w0 ρ μ { σ with bx := σ.bx.set b (some { x with cs := cs }) } a w' := by
  have hbl := lt_of_bx hb
  have hbx := box_bx hb
  have hbox : ∀ i l, ({ σ with bx := σ.bx.set b (some { x with cs := cs }) } : St).box i = some l → (i = b ∧ l = cs) ∨ (i ≠ b ∧ σ.box i = some l) := by
    intro i l h
    simp only [St.box] at h
    rw [box_set] at h
    by_cases hi : i = b
    · rw [if_pos ⟨hi, hbl⟩] at h; exact .inl ⟨hi, by simpa using h.symm⟩
    · rw [if_neg (fun h => hi h.1)] at h; exact .inr ⟨hi, h⟩
  have hold : ∀ i l, ({ σ with bx := σ.bx.set b (some { x with cs := cs }) } : St).box i = some l → ∃ l', σ.box i = some l' := by
    intro i l h
    rcases hbox i l h with ⟨rfl, _⟩ | ⟨_, h⟩
    · exact ⟨_, hbx⟩
    · exact ⟨_, h⟩
  exact { hs with
    box := fun i y h => by
      simp only [box_set] at h
      by_cases hi : i = b
      · rw [if_pos ⟨hi, hbl⟩] at h
        cases h
        subst hi
        exact ⟨hl, .inr ⟨o, hB, hc⟩⟩
      · rw [if_neg (fun h => hi h.1)] at h
        obtain ⟨h1, h2⟩ := hs.box i y h
        refine ⟨h1, ?_⟩
        rcases h2 with h2 | ⟨o', h3, h5⟩
        · exact .inl h2
        · by_cases hz : (μ i).2 = 0
          · exact .inl hz
          · exact .inr ⟨o', by rw [hw.block _ (hs.inj i b _ _ (box_bx h) hbx hi hz hk)]; exact h3, h5⟩
    inj := fun i j l l' h h' => by
      obtain ⟨_, g⟩ := hold i l h
      obtain ⟨_, g'⟩ := hold j l' h'
      exact hs.inj i j _ _ g g'
    sep := fun i l h => by obtain ⟨_, g⟩ := hold i l h; exact hs.sep i _ g
    own := fun i l h => by obtain ⟨_, g⟩ := hold i l h; exact hs.own i _ g
    ro := fun k o hr => by
      rw [hw.block k (by rintro rfl; rw [hs.sep b _ hbx hk] at hr; cases hr)]; exact hs.ro k o hr
    frame := fun k hk1 hk2 => by
      rw [hw.block k ?_]
      · exact hs.frame k hk1 hk2
      · rintro rfl
        rcases Nat.lt_or_ge b n with hb' | hb'
        · have := hs.inc b hb'
          rw [this] at hk hk2
          exact hk2 b hb' hk rfl
        · rcases hs.own b _ hbx hk hb' with h | ⟨c, hc, h0, he⟩
          · omega
          · exact hk2 c hc h0 he
    size := Nat.le_trans hs.size hw.size
    os := hw.os.trans hs.os
    tape := hw.tape.trans hs.tape
    output := hw.output.trans hs.output }

/-- A box given up. -/
theorem Sat.kill (hs : Sat ds n μ0 ρ0 w0 ρ μ σ a w) (b : Nat) : Sat ds n μ0 ρ0 w0 ρ μ { σ with bx := σ.bx.set b none } a w := by
  have hbox : ∀ i l, ({ σ with bx := σ.bx.set b none } : St).box i = some l → i ≠ b ∧ σ.box i = some l := by
    intro i l h
    simp only [St.box] at h
    rw [box_set] at h
    by_cases hi : i = b
    · by_cases hl : b < σ.bx.length
      · rw [if_pos ⟨hi, hl⟩] at h; cases h
      · rw [if_neg (fun h => hl h.2)] at h
        rw [hi] at h
        simp [List.getD, List.getElem?_eq_none (Nat.le_of_not_lt hl)] at h
    · rw [if_neg (fun h => hi h.1)] at h; exact ⟨hi, h⟩
  exact { hs with
    box := fun i y h => by
      simp only [box_set] at h
      by_cases hi : i = b ∧ b < σ.bx.length
      · rw [if_pos hi] at h; cases h
      · rw [if_neg hi] at h; exact hs.box i y h
    inj := fun i j l l' h h' => hs.inj i j l l' (hbox i l h).2 (hbox j l' h').2
    sep := fun i l h => hs.sep i l (hbox i l h).2
    own := fun i l h => hs.own i l (hbox i l h).2 }

theorem norm_cells_len (v : AV) : v.norm.cells.length = v.cells.length := by
  cases v <;> simp [AV.norm, AV.cells, normL_length]
theorem norm_solid {v : AV} (h : v.solid = true) : v.norm.solid = true := by
  cases v <;> simp_all [AV.norm, AV.solid]
theorem storeA_spec {P : Program} {t : TypeId} {x v : AV} {cx cv : Value} {K : St → Prop} (hs : Sat ds n μ0 ρ0 w0 ρ μ σ a w) (hx : Rv ρ (some μ) x cx) (hv : Rv ρ (some μ) v cv) (h : storeA P t σ x v K) :
    ∃ σ' w', (Instr.storeAt t cx cv).run P w = .ok () w' ∧ Sat ds n μ0 ρ0 w0 ρ μ σ' a w' ∧ K σ' := by
  unfold storeA at h
  split at h
  · rename_i b off
    cases hx with
    | ref =>
      split at h
      · rename_i bx hb
        split at h
        · rename_i hcond
          obtain ⟨hlen, hone, hu⟩ := hcond
          obtain ⟨d, hu⟩ : ∃ d, P.underlying t = some d := by cases hh : P.underlying t <;> simp_all
          have hsol : v.solid = true := by
            cases v <;> simp_all [AV.solid, ones, AV.cells, AV.one]
          split at h
          · exact h.elim
          rename_i hm
          have hm : bx.mp = none := by simpa using hm
          have hK : ∃ u, mapL (lev μ bx) (setCells bx.cs off u.cells) = none ∧ off + v.cells.length ≤ bx.cs.length ∧ u.cells.length = v.cells.length ∧ u.solid = true ∧ Rv ρ (lev μ bx) u cv ∧ K { σ with bx := σ.bx.set b (some { bx with cs := setCells bx.cs off u.cells }) } := by
            split at h
            · rename_i ha
              split at h
              · rename_i ht
                exact ⟨v.norm, mapL_arr ha _, h.1, norm_cells_len v, norm_solid hsol, by unfold lev; rw [if_pos ha]; exact (hv.of_tree ht).norm, h.2⟩
              · exact h.elim
            · rename_i ha
              split at h
              · rename_i hm2
                rw [Bool.and_eq_true, decide_eq_true_eq] at hm2
                exact ⟨v, mapL_of (by simpa using hm2.2), hm2.1, rfl, hsol, by unfold lev; rw [if_neg ha]; exact hv, h⟩
              · exact h.elim
          obtain ⟨u, hnm, hle, hul, husol, huv, hK⟩ := hK
          obtain ⟨hcl, hcr⟩ := solid_spec hsol hv
          obtain ⟨-, hcru⟩ := solid_spec husol huv
          have hones : ∀ u ∈ cv.cells.toList, u.oneCell' = true := by
            intro u hu
            obtain ⟨j, hj, rfl⟩ := List.getElem_of_mem hu
            simp only [Array.length_toList] at hj
            have h1 := hcr j
            have h2 : (v.cells.getD j .undef).one = true := by
              have hjl : j < v.cells.length := by omega
              simp only [List.getD, List.getElem?_eq_getElem hjl, Option.getD_some]
              exact List.all_eq_true.1 hone _ (List.getElem_mem hjl)
            have h3 := one_spec h2 h1
            simpa [Array.getD, hj] using h3
          have hrun : ∀ w', (storeCells ⟨(μ b).1, off, none⟩ cv.cells.toList 0).run P w = .ok () w' → (Instr.storeAt t (.pointer (some ⟨(μ b).1, off, none⟩)) cv).run P w = .ok () w' := by
            intro w' hr
            simp only [Instr.storeAt, Instr.sureAddr, Sem.run_bind, Sem.run_pure, Result.andThen_ok, storeVar, run_sizeOf' hu]
            rw [if_neg (by rw [← hcl, hlen]; simp)]
            simpa using hr
          obtain ⟨hb1, hb2⟩ := hs.box b _ hb
          by_cases hk : (μ b).2 = 0
          · have hnil : cv.cells.toList = [] := by
              apply List.eq_nil_of_length_eq_zero
              rw [Array.length_toList, ← hcl]; omega
            refine ⟨_, w, hrun w (by rw [hnil]; rfl), ?_, hK⟩
            have hcs : setCells bx.cs off u.cells = bx.cs := by
              have h1 : u.cells = [] := List.eq_nil_of_length_eq_zero (by omega)
              rw [h1]; simp [setCells]
            rw [hcs]
            have : (σ.bx.set b (some { bx with cs := bx.cs })) = σ.bx := by
              apply List.ext_getElem?
              intro i
              by_cases hi : i = b
              · subst hi
                have hl := lt_of_bx hb
                simp only [List.getElem?_set_self hl]
                have : σ.bx[i]? = some (some bx) := by
                  simp only [List.getD] at hb
                  cases hg : σ.bx[i]? with
                  | none => simp [hg] at hb
                  | some y => simp only [hg, Option.getD_some] at hb; rw [hb]
                rw [this]
              · rw [List.getElem?_set_ne (Ne.symm hi)]
            rw [this]; exact hs
          · rcases hb2 with h0 | ⟨o, h3, h5⟩
            · exact absurd h0 hk
            · obtain ⟨c, e, rfl, h4, h5⟩ := h5.get (by rw [mapL_lev]; exact hm)
              obtain ⟨w', c', g1, g2, g3, g4, g5⟩ := storeCells_spec (P := P) (off := off) cv.cells.toList 0 w c h3 hones (by simp; omega)
              refine ⟨_, w', hrun w' g1, hs.rebox hb hk g2 g3 (.cells hnm (by rw [g4, h4]) fun j => ?_) (by rw [setCells_length (by omega)]; exact hb1), hK⟩
              rw [setCells_getD (by omega), g5 j, hul]
              simp only [Nat.add_zero, Nat.sub_zero, Array.length_toList, ← hcl]
              split
              · rw [toList_getD]; exact hcru _
              · exact h5 j
        · exact h.elim
      · exact h.elim
  · exact h.elim

theorem run_sliceBound {P : Program} {k : IntKind} {i : Int} {y : Nat} {code : BoundsCode} (h0 : 0 ≤ i) (h1 : i ≤ y) (w : World) : (Instr.sliceBound (.int k i) y code).run P w = .ok i.toNat w := by
  simp only [Instr.sliceBound, asIntOf, Sem.run_bind, Sem.run_pure, Result.andThen_ok]
  rw [if_pos ⟨h0, h1⟩]; rfl


theorem run_bounds {P : Program} {lo hi : Option AV} {clo chi : Option Value} {isS : Bool} {len cap : Nat} {k k' : IntKind} {l h : Int} {p q : Bool}
    (hl : bnd lo 0 = some (k, l, p)) (hh : bnd hi len = some (k', h, q))
    (hlo : (lo = none ∧ clo = none) ∨ ∃ v cv, lo = some v ∧ clo = some cv ∧ Rv ρ (some μ) v cv) (hhi : (hi = none ∧ chi = none) ∨ ∃ v cv, hi = some v ∧ chi = some cv ∧ Rv ρ (some μ) v cv)
    (h0 : 0 ≤ l) (h1 : l ≤ h) (h2 : h ≤ cap) (w : World) : (Instr.sliceBounds isS len cap clo chi none).run P w = .ok (l.toNat, h.toNat, cap) w := by
  have h0h : 0 ≤ h := by omega
  rcases hhi with ⟨rfl, rfl⟩ | ⟨v, cv, rfl, rfl, hv⟩
  · simp only [bnd, Option.some.injEq, Prod.mk.injEq] at hh
    obtain ⟨-, rfl, -⟩ := hh
    rcases hlo with ⟨rfl, rfl⟩ | ⟨u, cu, rfl, rfl, hu⟩
    · simp only [bnd, Option.some.injEq, Prod.mk.injEq] at hl
      obtain ⟨-, rfl, -⟩ := hl
      simp [Instr.sliceBounds]
    · have := isI_spec hl hu
      subst this
      simp [Instr.sliceBounds, run_sliceBound h0 h1]
  · have := isI_spec hh hv
    subst this
    rcases hlo with ⟨rfl, rfl⟩ | ⟨u, cu, rfl, rfl, hu⟩
    · simp only [bnd, Option.some.injEq, Prod.mk.injEq] at hl
      obtain ⟨-, rfl, -⟩ := hl
      simp [Instr.sliceBounds, run_sliceBound h0h h2]
    · have := isI_spec hl hu
      subst this
      simp [Instr.sliceBounds, run_sliceBound h0h h2, run_sliceBound (y := h.toNat) h0 (by omega)]
end
end Go.Proofs.YtblebiafhhhflaaGreat

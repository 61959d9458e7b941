/- Calls by contract: the evaluator's step holds. -/
import Derived.Test.YtblebiafhhhflaaGreatR12
namespace Go.Proofs.YtblebiafhhhflaaGreat
open Go.RowKit

theorem exBox_elim {P : Program} {x : Bx} {K : List AV → Prop} (h : exBox P x K) : ∃ l, K l := by
  unfold exBox at h
  split at h
  · obtain ⟨es, h⟩ := h; exact ⟨_, h⟩
  · split at h
    · split at h
      · exact ⟨_, h⟩
      · exact ⟨_, h⟩
      · exact ⟨_, h⟩
      · exact exCells_elim _ _ _ h
    · exact exCells_elim _ _ _ h
theorem exBoxesI_elim {k : Nat → Bool} {P : Program} : ∀ {bs : List Bx} {i : Nat} {K : List (List AV) → Prop}, exBoxesI k P i bs K → ∃ l, K l := by
  intro bs
  induction bs with
  | nil => intro i K h; exact ⟨_, h⟩
  | cons x r ih =>
    intro i K h
    unfold exBoxesI at h
    split at h
    · obtain ⟨l, h⟩ := ih h
      exact ⟨_, h⟩
    · obtain ⟨cs, h⟩ := exBox_elim h
      obtain ⟨l, h⟩ := ih h
      exact ⟨_, h⟩

theorem exBoxesW_elim {ro : Bool} {k : Nat → Bool} {P : Program} {bs : List Bx} {K : List (List AV) → Prop} (h : exBoxesW ro k P bs K) : ∃ l, K l := by
  unfold exBoxesW at h
  split at h
  · exact ⟨_, h⟩
  · exact exBoxesI_elim h
theorem giveBack_getD {B : List Nat} {O : List (List AV)} {kill : List Nat} {bx : List (Option Bx)} {b : Nat} {x : Bx} (h : (giveBack B O kill bx).getD b none = some x) :
    kill.contains b = false ∧ ((idx b B = none ∧ bx.getD b none = some x) ∨ ∃ i y, idx b B = some i ∧ bx.getD b none = some y ∧ x = { y with cs := AV.renL (B[·]?) (O.getD i []) }) := by
  unfold giveBack at h
  simp only [List.getD, mapI_get] at h
  cases hg : bx[b]? with
  | none => simp [hg] at h
  | some y =>
    simp only [hg, Option.map_some, Option.getD_some] at h
    split at h
    · cases h
    · rename_i hk
      refine ⟨by simpa using hk, ?_⟩
      split at h
      · rename_i i hi
        obtain ⟨z, hz, rfl⟩ := Option.map_eq_some_iff.1 h
        exact .inr ⟨i, z, hi, by simp [List.getD, hg, hz], rfl⟩
      · rename_i hi
        exact .inl ⟨hi, by simp [List.getD, hg, h]⟩
theorem giveBack_none {B : List Nat} {O : List (List AV)} {kill : List Nat} {bx : List (Option Bx)} {b : Nat} (h : b ∈ kill) : (giveBack B O kill bx).getD b none = none := by
  cases hg : (giveBack B O kill bx).getD b none with
  | none => rfl
  | some x =>
    have := (giveBack_getD hg).1
    simp [h] at this

section
variable {frs : Ways} {il : InlF} {ds : List Deferred} {n : Nat} {μ0 : Lay} {ρ0 : RO} {w0 : World} {ρ : RO} {μ : Lay} {σ : St} {a : Act} {w : World}

open Classical in
theorem callA_spec {P : Program} {f : FuncId} {args : List AV} {vs : Array Value} {d : Option Nat} {K : St → Prop} (hs : Sat ds n μ0 ρ0 w0 ρ μ σ a w) (hargs : Rvs ρ (some μ) args vs) (h : callA P (SpecsOf P frs il) n f args d σ K) :
    (callFunc f vs).run P w = .ok (.enter f vs) w ∧ Calls P f vs w (fun e w' => ∃ cv, e = .returned cv ∧ ∃ ρ' σ', Sat ds n μ0 ρ0 w0 ρ' μ σ' (a.put d cv) w' ∧ K σ') := by
  unfold callA at h
  dsimp only at h
  generalize hBd : reach (fun b => (σ.box b).map (AV.snapL σ.boxN)) 30 (AV.refsL (AV.snapL σ.boxN args)) [] = B at h
  split at h
  case h_2 => exact h.elim
  rename_i bs fn hbs hfn
  generalize hasl : AV.aslcsL args ++ AV.aslcsL (bs.flatMap (·.cs)) = asl at h
  split at h
  · exact h.elim
  rename_i hcond
  simp only [Bool.or_eq_true, List.any_eq_true, Bool.not_eq_true', decide_eq_false_iff_not, not_or, not_exists, not_and, Bool.not_eq_true, Decidable.not_not, List.mem_map, List.contains_eq_mem, decide_eq_true_eq] at hcond
  obtain ⟨⟨⟨harr, hdisj⟩, hnd⟩, hkm⟩ := hcond
  have hsm : ∀ x ∈ bs, mapC (AV.snapL σ.boxN x.cs) = mapC x.cs := fun x hx => mapC_keep (by simpa using hkm x hx) fun m es he => by rw [he]; rfl
  have hdisj : ∀ b, b ∈ asl.map (·.1) → b ∉ B := by
    intro b hb hB
    obtain ⟨t, ht, rfl⟩ := List.mem_map.1 hb
    exact hdisj t.1 ⟨t, ht, rfl⟩ hB
  obtain ⟨hok, h⟩ := withOK_elim h
  obtain ⟨v, h⟩ := exAlt_elim h
  obtain ⟨O', hspec, hK⟩ := exBoxesW_elim h
  obtain ⟨henter, hspec⟩ := hspec
  refine ⟨henter vs w, ?_⟩
  obtain ⟨hbl, hbi⟩ := mapM_bx hbs
  have hBlive : ∀ b ∈ B, ∃ (i : Nat) (x : Bx), B[i]? = some b ∧ bs[i]? = some x ∧ σ.bx.getD b none = some x := by
    intro b hb
    obtain ⟨i, hi, rfl⟩ := List.getElem_of_mem hb
    obtain ⟨x, h1, h2⟩ := hbi i B[i] (by simp [hi])
    exact ⟨i, x, by simp [hi], h1, h2⟩
  have hBarr : ∀ b x, b ∈ B → σ.bx.getD b none = some x → x.arr = false := by
    intro b x hb hx
    obtain ⟨i, y, _, h1, h2⟩ := hBlive b hb
    rw [hx] at h2; cases h2
    exact harr x (List.mem_of_getElem? h1)
  -- what nobody writes while the callee runs
  let X : Nat → Prop := fun k => ∃ b x, b ∈ asl.map (·.1) ∧ σ.bx.getD b none = some x ∧ (μ b).2 ≠ 0 ∧ (μ b).1 = k
  let ρc : RO := fun k => if X k then w.heap[k]? else ρ k
  have hXn : ∀ k, X k → ρ k = none := by
    rintro k ⟨b, x, _, hx, hk, rfl⟩
    exact hs.sep b _ (box_bx hx) hk
  have hlec : ρ.le ρc := by
    intro k o hk
    show (if X k then _ else ρ k) = _
    rw [if_neg (fun hX => by rw [hXn k hX] at hk; cases hk)]; exact hk
  have hroc : ∀ k o, ρc k = some o → w.heap[k]? = some o := by
    intro k o hk
    simp only [ρc] at hk
    split at hk
    · exact hk
    · exact hs.ro k o hk
  have hblk : ∀ b x, b ∈ asl.map (·.1) → σ.bx.getD b none = some x → (μ b).2 ≠ 0 → ρc (μ b).1 = w.heap[(μ b).1]? := by
    intro b x hb hx hk
    show (if X (μ b).1 then _ else _) = _
    rw [if_pos ⟨b, x, hb, hx, hk, rfl⟩]
  have hsnap : ∀ u cu, Rv ρ (some μ) u cu → (∀ t ∈ u.aslcs, t ∈ asl) → Rv ρc (some μ) (u.snap σ.boxN) cu := fun u cu hu ht =>
    hs.snap hlec hblk hu (fun t h => ⟨List.mem_map_of_mem (ht t h), hok t (ht t h)⟩)
  let μc : Lay := fun i => match B[i]? with | some b => μ b | none => (0, 0)
  have hμc : ∀ (i b : Nat), B[i]? = some b → μc i = μ b := fun i b hi => by simp only [μc, hi]
  have hren : ∀ (b i : Nat), idx b B = some i → μc i = μ b := fun b i hi => hμc i b (idx_spec hi)
  have hO : ∀ (i : Nat), ((bs.map fun x => AV.normL (AV.renL (idx · B) (AV.snapL σ.boxN x.cs)))[i]?) = (bs[i]?).map fun x => AV.normL (AV.renL (idx · B) (AV.snapL σ.boxN x.cs)) := fun i => by simp
  have hOl : (bs.map fun x => AV.normL (AV.renL (idx · B) (AV.snapL σ.boxN x.cs))).length = B.length := by simp [hbl]
  have hget : ∀ (i : Nat), i < B.length → ∃ (b : Nat) (x : Bx), B[i]? = some b ∧ bs[i]? = some x ∧ σ.bx.getD b none = some x ∧ b ∈ B := by
    intro i hi
    obtain ⟨x, h1, h2⟩ := hbi i B[i] (by simp [hi])
    exact ⟨B[i], x, by simp [hi], h1, h2, List.getElem_mem hi⟩
  have hdist : ∀ (i j b b' : Nat), i ≠ j → B[i]? = some b → B[j]? = some b' → b ≠ b' := by
    rintro i j b b' hij hi hj rfl
    obtain ⟨h1, h2⟩ := List.getElem?_eq_some_iff.1 hi
    obtain ⟨h3, h4⟩ := List.getElem?_eq_some_iff.1 hj
    rcases Nat.lt_or_gt_of_ne hij with hl | hl
    · exact List.pairwise_iff_getElem.1 hnd i j h1 h3 hl (by rw [h2, h4])
    · exact List.pairwise_iff_getElem.1 hnd j i h3 h1 hl (by rw [h2, h4])
  have hcells : ∀ b x, b ∈ B → σ.bx.getD b none = some x → ∀ j t, t ∈ (x.cs.getD j .undef).aslcs → t ∈ asl := by
    intro b x hb hx j t ht
    obtain ⟨i, y, _, h1, h2⟩ := hBlive b hb
    rw [hx] at h2; cases h2
    rw [← hasl]
    refine List.mem_append_right _ ?_
    obtain ⟨l1, l2, rfl⟩ := List.append_of_mem (List.mem_of_getElem? h1)
    have : t ∈ AV.aslcsL x.cs := mem_aslcsL ht
    have key : ∀ (p q : List AV), AV.aslcsL (p ++ q) = AV.aslcsL p ++ AV.aslcsL q := by
      intro p q
      induction p with
      | nil => rfl
      | cons c r ih => simp [AV.aslcsL, ih]
    simp only [List.flatMap_append, List.flatMap_cons, key, List.mem_append]
    exact .inr (.inl this)
  have hcall := hspec ρc μc w vs hroc ?_ ?_ ?_ ?_
  rotate_left
  · -- the boxes
    intro i cs hi
    rw [hO i] at hi
    obtain ⟨x, hx, rfl⟩ := Option.map_eq_some_iff.1 hi
    have hil : i < B.length := by
      have := (List.getElem?_eq_some_iff.1 hx).1; omega
    obtain ⟨b, y, h1, h2, h3, h4⟩ := hget i hil
    rw [hx] at h2; cases h2
    have hm := hμc i b h1
    obtain ⟨g1, g2⟩ := hs.box b x h3
    refine ⟨by rw [hm, normL_length, renL_length, snapL_length]; exact g1, ?_⟩
    rw [hm]
    rcases g2 with g2 | ⟨o, g3, g5⟩
    · exact .inl g2
    · refine .inr ⟨o, g3, g5.imp (by rw [mapC_norm, mapC_ren]; exact hsm x (List.mem_of_getElem? hx)) (fun j cv hj => ?_) (hl := by rw [lev_isSome, harr x (List.mem_of_getElem? hx)]; rfl)⟩
      rw [normL_getD, renL_getD, snapL_getD]
      exact ((hsnap _ _ hj.lev_some (hcells b x h4 h3 j)).ren hren).norm
  · intro i j hi hj hij hk hk'
    rw [hOl] at hi hj
    obtain ⟨b, y, h1, _, h3, _⟩ := hget i hi
    obtain ⟨b', y', h1', _, h3', _⟩ := hget j hj
    rw [hμc i b h1, hμc j b' h1'] at *
    exact hs.inj b b' _ _ (box_bx h3) (box_bx h3') (hdist i j b b' hij h1 h1') hk hk'
  · intro i hi hk
    rw [hOl] at hi
    obtain ⟨b, y, h1, _, h3, h4⟩ := hget i hi
    rw [hμc i b h1] at *
    show (if X (μ b).1 then _ else _) = _
    rw [if_neg]
    · exact hs.sep b _ (box_bx h3) hk
    · rintro ⟨b', x', hb', hx', hk', he⟩
      exact hs.inj b' b _ _ (box_bx hx') (box_bx h3) (by rintro rfl; exact hdisj b' hb' h4) hk' hk he
  · refine ⟨by rw [normL_length, renL_length, snapL_length]; exact hargs.1, fun j => ?_⟩
    rw [normL_getD, renL_getD, snapL_getD]
    exact ((hsnap _ _ (hargs.2 j) (fun t ht => by rw [← hasl]; exact List.mem_append_left _ (mem_aslcsL ht))).ren hren).norm
  -- behind the call
  refine hcall.mono fun e w' hg => ?_
  obtain ⟨⟨cv, ρ'', rfl, gle, gro, gnew, gv, gbox⟩, glen, gframe, gsize, gos, gtape, gout⟩ := hg
  refine ⟨cv, rfl, ?_⟩
  rw [hOl] at glen gframe
  have hframe : ∀ k, k < w.heap.size → (∀ b, b ∈ B → (μ b).2 ≠ 0 → k ≠ (μ b).1) → w'.heap[k]? = w.heap[k]? := by
    intro k hk hb
    refine gframe k hk fun i hi hki => ?_
    obtain ⟨b, y, h1, _, _, h4⟩ := hget i hi
    rw [hμc i b h1] at *
    exact hb b h4 hki
  have hBsome : ∀ b ∈ B, (σ.bx.getD b none).isSome = true := by
    intro b hb
    obtain ⟨_, x, _, _, h⟩ := hBlive b hb
    rw [h]; rfl
  have hback : ∀ (i b : Nat), B[i]? = some b → μ b = μc i := fun i b hi => (hμc i b hi).symm
  -- the boxes that come back
  have hbx : ∀ (kill : List Nat) (ρn : RO), (∀ (i : Nat) (cs : List AV), O'[i]? = some cs → ∀ j c, Rv ρ'' (some μc) (cs.getD j .undef) c → Rv ρn (some μc) (cs.getD j .undef) c) →
      ∀ b x, (giveBack B O' kill σ.bx).getD b none = some x → (b ∉ B ∧ σ.bx.getD b none = some x) ∨ (b ∈ B ∧ (σ.bx.getD b none).isSome = true ∧ x.arr = false ∧ BoxAt ρn (some μ) μ w' b x.cs) := by
    intro kill ρn hconv b x hx
    obtain ⟨_, hx⟩ := giveBack_getD hx
    rcases hx with ⟨h1, h2⟩ | ⟨i, y, h1, h2, rfl⟩
    · exact .inl ⟨idx_none h1, h2⟩
    · have hBi := idx_spec h1
      have hbB : b ∈ B := List.mem_of_getElem? hBi
      have hil : i < O'.length := by have := (List.getElem?_eq_some_iff.1 hBi).1; omega
      have hOi : O'[i]? = some (O'.getD i []) := by simp [List.getD, hil]
      refine .inr ⟨hbB, hBsome b hbB, hBarr b y hbB h2, ?_⟩
      obtain ⟨g1, g2⟩ := gbox i _ hOi
      have hm := hμc i b hBi
      rw [hm] at g1 g2
      refine ⟨by simpa [renL_length] using g1, ?_⟩
      rcases g2 with g2 | ⟨o, g3, g5⟩
      · exact .inl g2
      · refine .inr ⟨o, g3, g5.imp (mapC_ren _ _) fun j cv hj => ?_⟩
        show Rv ρn (some μ) ((AV.renL (B[·]?) (O'.getD i [])).getD j .undef) _
        rw [renL_getD]
        exact (hconv i _ hOi j _ hj).ren hback
  split at hK
  · rename_i hpl
    simp only [Bool.and_eq_true, List.all_eq_true] at hpl
    obtain ⟨hpv, hpO⟩ := hpl
    let ρn : RO := fun k => if X k then none else ρ'' k
    have hconv : ∀ (i : Nat) (cs : List AV), O'[i]? = some cs → ∀ j c, Rv ρ'' (some μc) (cs.getD j .undef) c → Rv ρn (some μc) (cs.getD j .undef) c := by
      intro i cs hi j c hc
      rcases Nat.lt_or_ge j cs.length with hj | hj
      · exact hc.of_plain (plainL_getD (hpO cs (List.mem_of_getElem? hi)) j hj)
      · rw [getD_le hj]; exact .undef ..
    have hsat := hs.called (bx' := giveBack B O' [] σ.bx) (ρn := ρn) (w' := w') (hbx [] ρn hconv) ?_ ?_ ?_ hframe gsize gos gtape gout hBsome
    · exact ⟨ρn, _, hsat.put ((gv.of_plain hpv).ren hback), hK⟩
    · intro k o hk
      show (if X k then none else ρ'' k) = _
      rw [if_neg (fun hX => by rw [hXn k hX] at hk; cases hk)]
      exact gle k o (hlec k o hk)
    · intro k o hk
      simp only [ρn] at hk
      split at hk
      · cases hk
      · exact gro k o hk
    · intro k o hk h0
      simp only [ρn] at hk
      split at hk
      · cases hk
      · rename_i hX
        refine .inl (gnew k o hk ?_)
        show (if X k then _ else ρ k) = _
        rw [if_neg hX]; exact h0
  · split at hK
    · rename_i hall
      have hsat := hs.called (bx' := giveBack B O' (asl.map (·.1)) σ.bx) (ρn := ρ'') (w' := w') (hbx _ ρ'' (fun _ _ _ _ _ hc => hc)) (hlec.trans gle) gro ?_ hframe gsize gos gtape gout hBsome
      · exact ⟨ρ'', _, hsat.put (gv.ren hback), hK⟩
      · intro k o hk h0
        by_cases hX : X k
        · obtain ⟨b, x, hb, hx, hkb, he⟩ := hX
          refine .inr ⟨b, x, hx, hkb, he, hdisj b hb, giveBack_none hb, ?_⟩
          have := List.all_eq_true.1 hall b hb
          simpa using this
        · refine .inl (gnew k o hk ?_)
          show (if X k then _ else ρ k) = _
          rw [if_neg hX]; exact h0
    · exact hK.elim
end
end Go.Proofs.YtblebiafhhhflaaGreat

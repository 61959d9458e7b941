/- Contracts of functions that return a slice of new memory, out of the evaluator. -/
import Derived.Test.YtdaanpgdjjodcaaR16
namespace Go.Proofs.Ytdaanpgdjjodcaa
open Go.RowKit

theorem chunkA_cells {k : Nat} : ∀ (n : Nat) (cs : List AV), cs.length = n * k → (chunkA k n cs).flatMap AV.cells = cs := by
  intro n
  induction n with
  | zero => intro cs h; have : cs = [] := List.length_eq_zero_iff.1 (by omega); subst this; rfl
  | succ n ih =>
    intro cs h
    simp only [chunkA, List.flatMap_cons, AV.cells]
    rw [ih (cs.drop k) (by rw [List.length_drop, h, Nat.succ_mul]; omega)]
    exact List.take_append_drop k cs
theorem ones_cells : ∀ {cs : List AV}, ones cs = true → cs.flatMap AV.cells = cs := by
  intro cs
  induction cs with
  | nil => intro _; rfl
  | cons c r ih =>
    intro h
    simp only [ones, List.all_cons, Bool.and_eq_true] at h
    rw [List.flatMap_cons, one_cells h.1, ih h.2]; rfl
theorem chunks_all {esz len : Nat} {ag : Bool} {cs : List AV} (hl : cs.length = len * esz) (h : ag = false → esz = 1 ∧ ones cs = true) : (chunks esz ag len cs).length = len ∧ (chunks esz ag len cs).flatMap AV.cells = cs := by
  unfold chunks
  cases ag with
  | true => exact ⟨(chunkA_spec len cs).1, chunkA_cells len cs hl⟩
  | false =>
    obtain ⟨h1, h2⟩ := h rfl
    have : cs.take len = cs := List.take_of_length_le (by rw [hl, h1]; omega)
    simp only [this]
    exact ⟨by rw [if_neg (by simp), hl, h1]; omega, by rw [if_neg (by simp)]; exact ones_cells h2⟩

/-- A contract out of what the evaluator gives. -/
theorem spec_by {P : Program} {frs : Ways} {f : FuncId} {fn : Func} {keep : Ctl} {args : List AV} {boxes : List Bx} {css : List (List AV)} {n : Nat} {v : AV} {O' : List (List AV)} {R : Prop} (hm : P.follows .mixedOrders = true) (hf : P.funcs[f]? = some fn)
    (hcall : ∀ (vs : Array Value) (w : World), (callFunc f vs).run P w = .ok (.enter f vs) w) (hn : boxes.length = n) (hcs : boxes.map (·.cs) = css) (harr : boxes.all (fun x => !x.arr) = true) (hnt : args.length ≤ fn.ntmps)
    (he : awpF P ⟨SpecOf P, FreshOf P, frs⟩ n keep fn args boxes (fun r O => r = v ∧ O = O') = R) (h : R) : SpecOf P f args css v O' := by
  subst hn; subst hcs; subst he
  exact spec_of (frs := frs) hm hf hcall harr hnt h

section
variable {frs : Ways} {μ0 : Lay} {ρ0 : RO} {w0 : World} {ρ : RO} {μ : Lay} {σ : St} {a : Act} {w : World}

theorem retF_spec {P : Program} {fn : Func} {k : Nat} {es : List AV} (hs : Sat 0 μ0 ρ0 w0 ρ μ σ a w) (h : retF P fn k σ (fun r => r = es)) :
    ∃ cv, (results fn a.tmps).run P w = .ok cv w ∧ FreshG ρ0 w0 k es (.returned cv) w := by
  have hnone : ρ w.heap.size = none := by
    cases hk : ρ w.heap.size with
    | none => rfl
    | some o =>
      have := hs.ro _ _ hk
      have := (Array.getElem?_eq_some_iff.1 this).1
      omega
  have fin : ∀ (cv : Value) (B κ : Nat), (∀ ag, Rv ρ (some fun _ => (B, κ)) (.aslc 0 0 es.length k ag) cv) → ρ B = none → w0.heap.size ≤ B → (es.flatMap AV.cells).length ≤ κ →
      (κ = 0 ∨ ∃ c e, w.heap[B]? = some (.cells c e (0, 0)) ∧ c.size = κ ∧ RvC ρ none (es.flatMap AV.cells) c) → FreshG ρ0 w0 k es (.returned cv) w := fun cv B κ h1 h2 h3 h4 h5 =>
    ⟨⟨ρ, B, κ, cv, rfl, hs.le, hs.ro, hs.new, h1, h2, h3, h4, h5⟩, fun k hk => hs.frame k hk (fun b hb => absurd hb (by omega)), hs.size, hs.os, hs.tape, hs.output⟩
  have hres : ∀ v, fn.results.toList.mapM (resA P σ) = some [v] → ∃ cv, (results fn a.tmps).run P w = .ok cv w ∧ Rv ρ (some μ) v cv := by
    intro v hv
    obtain ⟨cvs, h1, h2, h3⟩ := resA_spec (P := P) hs _ _ hv
    refine ⟨(if h : cvs.toArray.size = 1 then cvs.toArray[0] else .tuple cvs.toArray), ?_, tupOf_spec [v] cvs h2 h3⟩
    unfold results
    rw [Sem.run_bind, Array.mapM_eq_mapM_toList]
    rw [Sem.run_map, h1 _ (fun t => rfl) (fun b t => rfl)]
    rfl
  unfold retF at h
  split at h
  · rename_i hv
    obtain ⟨cv, h1, h2⟩ := hres _ hv
    refine ⟨cv, h1, ?_⟩
    subst h
    generalize hx : AV.slc 0 [] = x at h2
    cases h2 with
    | eslc _ m a hm => cases hx; exact absurd rfl hm
    | nilslc _ m => exact fin _ w.heap.size 0 (fun ag => .aslc0 _ _ _ _ none) hnone hs.size (by simp) (.inl rfl)
    | slc _ m es b o cap k c hm => cases hx; exact absurd rfl hm
    | _ => cases hx
  · rename_i b len esz ag hv
    obtain ⟨cv, h1, h2⟩ := hres _ hv
    split at h
    · rename_i x hx
      split at h
      · rename_i hc
        simp only [Bool.and_eq_true, decide_eq_true_eq] at hc
        obtain ⟨⟨ha, hk⟩, hpos⟩ := hc
        obtain ⟨⟨hl, hag⟩, rfl⟩ := h
        obtain ⟨c1, c2⟩ := chunks_all hl hag
        refine ⟨cv, h1, ?_⟩
        obtain ⟨b1, b2⟩ := hs.box b x hx
        have hlev : lev μ x = none := by unfold lev; rw [if_pos ha]
        rw [hlev] at b2
        subst hk
        by_cases hκ : (μ b).2 = 0
        · refine fin cv w.heap.size 0 (fun ag' => ?_) hnone hs.size (by rw [c2]; omega) (.inl rfl)
          rw [c1]
          cases h2 with
          | aslc _ _ _ _ _ _ cap hcap hr =>
            have hcz : cap * esz = 0 := by omega
            have hc0 : cap = 0 := by
              rcases Nat.mul_eq_zero.1 hcz with h | h
              · exact h
              · omega
            have hl0 : len = 0 := by omega
            subst hl0; subst hc0
            exact .aslc0 _ _ _ _ _
          | aslc0 _ _ _ _ p => exact .aslc0 _ _ _ _ p
        · refine fin cv (μ b).1 (μ b).2 (fun ag' => ?_) (hs.sep b _ (box_bx hx) hκ) (hs.own b _ (box_bx hx) hκ (Nat.zero_le b)) (by rw [c2]; exact b1) ?_
          · rw [c1]
            cases h2 with
            | aslc _ _ _ _ _ _ cap hcap hr => exact .aslc (fun _ => ((μ b).1, (μ b).2)) 0 0 len esz ag' cap hcap hr
            | aslc0 _ _ _ _ p => exact .aslc0 _ _ _ _ p
          · rw [c2]
            rcases b2 with b2 | b2
            · exact absurd b2 hκ
            · exact .inr b2
      · exact h.elim
    · exact h.elim
  · exact h.elim

theorem fresh_of {P : Program} {f : FuncId} {fn : Func} {keep : Ctl} {args : List AV} {k : Nat} {es : List AV} (hm : P.follows .mixedOrders = true) (hf : P.funcs[f]? = some fn)
    (hcall : ∀ (vs : Array Value) (w : World), (callFunc f vs).run P w = .ok (.enter f vs) w) (hnt : args.length ≤ fn.ntmps)
    (h : awpG P (SpecsOf P frs) keep fn args k (fun r => r = es)) : FreshOf P f args k es := by
  refine ⟨hcall, fun ρ w vs hro hargs => ?_⟩
  unfold awpG at h
  cases hb : fn.body with
  | none => simp [hb] at h
  | some c =>
    rw [hb] at h
    simp only at h
    refine calls_of_wp hf hb ?_
    let μ : Lay := fun _ => (0, 0)
    have hnb : ∀ b, (initSt fn args []).bx.getD b none = none := by
      intro b
      simp only [initSt, List.map_nil, List.nil_append, List.getD]
      cases hg : (List.replicate fn.ntmps (none : Option Bx))[b]? with
      | none => rfl
      | some y => exact List.eq_of_mem_replicate (List.mem_of_getElem? hg)
    have hnbx : ∀ b cs, (initSt fn args []).box b = some cs → False := by
      intro b cs h
      obtain ⟨x, hx, -⟩ := box_some h
      rw [hnb b] at hx; cases hx
    have hs : Sat 0 μ ρ w ρ μ (initSt fn args []) { tmps := vs ++ Array.replicate (fn.ntmps - vs.size) Go.undef, defers := [] } w := by
      refine { defs := rfl, sz := ?_, sl := ?_, box := fun b x hx => (by rw [hnb b] at hx; cases hx), inj := fun b b' cs cs' h => (hnbx b cs h).elim, sep := fun b cs h => (hnbx b cs h).elim, own := fun b cs h => (hnbx b cs h).elim, inc := fun _ _ => rfl, ro := hro, le := RO.le_refl ρ, new := ?_, frame := fun _ _ _ => rfl, size := Nat.le_refl _, os := rfl, tape := rfl, output := rfl }
      · simp only [initSt, List.length_append, List.length_replicate, Array.size_append, Array.size_replicate, hargs.1]
      · have h2 : Rvs ρ (some μ) (List.replicate (fn.ntmps - args.length) .undef) (Array.replicate (fn.ntmps - vs.size) Go.undef) := by
          refine ⟨by simp [hargs.1], fun j => ?_⟩
          have : (List.replicate (fn.ntmps - args.length) AV.undef).getD j .undef = .undef := by
            simp only [List.getD]
            cases hg : (List.replicate (fn.ntmps - args.length) AV.undef)[j]? with
            | none => rfl
            | some y => exact List.eq_of_mem_replicate (List.mem_of_getElem? hg)
          rw [this]; exact .undef ..
        exact (Rvs_append ⟨hargs.1, fun j => (hargs.2 j).any _⟩ h2).2
      · intro k o h h0
        rw [h0] at h; cases h
    refine awp_spec hm c _ _ ρ μ _ _ w ?_ hs h
    rintro e a w' ⟨ρ', μ', σ', hs', h'⟩
    cases e with
    | normal =>
      obtain ⟨cv, h1, h2⟩ := retF_spec hs' h'
      exact ⟨hs'.defs, cv, h1, h2⟩
    | exit id => exact h'.elim
    | ret =>
      obtain ⟨cv, h1, h2⟩ := retF_spec hs' h'
      exact ⟨hs'.defs, cv, h1, h2⟩
end
/-- The same for a function that gives a new slice. -/
theorem fresh_by {P : Program} {frs : Ways} {f : FuncId} {fn : Func} {keep : Ctl} {args : List AV} {k : Nat} {es : List AV} {R : Prop} (hm : P.follows .mixedOrders = true) (hf : P.funcs[f]? = some fn)
    (hcall : ∀ (vs : Array Value) (w : World), (callFunc f vs).run P w = .ok (.enter f vs) w) (hnt : args.length ≤ fn.ntmps)
    (he : awpG P ⟨SpecOf P, FreshOf P, frs⟩ keep fn args k (fun r => r = es) = R) (h : R) : FreshOf P f args k es := by
  subst he
  exact fresh_of (frs := frs) hm hf hcall hnt h
end Go.Proofs.Ytdaanpgdjjodcaa

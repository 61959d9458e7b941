/- Contracts of functions that return a slice of new memory, out of the evaluator. -/
import Derived.Test.YtblebiafhhhflaaGreatR16
namespace Go.Proofs.YtblebiafhhhflaaGreat
open Go.RowKit

theorem chunkA_cells {k : Nat} : ∀ (n : Nat) (cs : List AV), cs.length = n * k → (chunkA k n cs).flatMap AV.cells = cs := by
  intro n
  induction n with
  | zero => intro cs h; have : cs = [] := List.length_eq_zero_iff.1 (by omega); subst this; rfl
  | succ n ih =>
    intro cs h
    simp only [chunkA, List.flatMap_cons, AV.cells]
    rw [ih (cs.drop k) (by rw [List.length_drop, h, Nat.succ_mul]; omega)]
    exact List.take_append_drop k cs
theorem ones_cells : ∀ {cs : List AV}, ones cs = true → cs.flatMap AV.cells = cs := by
  intro cs
  induction cs with
  | nil => intro _; rfl
  | cons c r ih =>
    intro h
    simp only [ones, List.all_cons, Bool.and_eq_true] at h
    rw [List.flatMap_cons, one_cells h.1, ih h.2]; rfl
theorem chunks_all {esz len : Nat} {ag : Bool} {cs : List AV} (hl : cs.length = len * esz) (h : ag = false → esz = 1 ∧ ones cs = true) : (chunks esz ag len cs).length = len ∧ (chunks esz ag len cs).flatMap AV.cells = cs := by
  unfold chunks
  cases ag with
  | true => exact ⟨(chunkA_spec len cs).1, chunkA_cells len cs hl⟩
  | false =>
    obtain ⟨h1, h2⟩ := h rfl
    have : cs.take len = cs := List.take_of_length_le (by rw [hl, h1]; omega)
    simp only [this]
    exact ⟨by rw [if_neg (by simp), hl, h1]; omega, by rw [if_neg (by simp)]; exact ones_cells h2⟩

section
variable {frs : Ways} {il : InlF} {ds : List Deferred} {μ0 : Lay} {ρ0 : RO} {w0 : World} {ρ : RO} {μ : Lay} {σ : St} {a : Act} {w : World}

theorem retF_spec {P : Program} {fn : Func} {k : Nat} {es : List AV} (hs : Sat ds 0 μ0 ρ0 w0 ρ μ σ a w) (h : retF P fn k σ (fun r => r = es)) :
    ∃ cv, (results fn a.tmps).run P w = .ok cv w ∧ FreshG ρ0 w0 k es (.returned cv) w := by
  have hnone : ρ w.heap.size = none := by
    cases hk : ρ w.heap.size with
    | none => rfl
    | some o =>
      have := hs.ro _ _ hk
      have := (Array.getElem?_eq_some_iff.1 this).1
      omega
  have fin : ∀ (cv : Value) (B κ : Nat), (∀ ag, Rv ρ (some fun _ => (B, κ)) (.aslc 0 0 es.length k ag) cv) → ρ B = none → w0.heap.size ≤ B → (es.flatMap AV.cells).length ≤ κ →
      (κ = 0 ∨ ∃ c e, w.heap[B]? = some (.cells c e (0, 0)) ∧ c.size = κ ∧ RvC ρ none (es.flatMap AV.cells) c) → FreshG ρ0 w0 k es (.returned cv) w := fun cv B κ h1 h2 h3 h4 h5 =>
    ⟨⟨ρ, B, κ, cv, rfl, hs.le, hs.ro, fun k o h h0 => (hs.new k o h h0).elim id fun ⟨c, hc, _⟩ => absurd hc (Nat.not_lt_zero c), h1, h2, h3, h4, h5⟩, fun k hk => hs.frame k hk (fun b hb => absurd hb (by omega)), hs.size, hs.os, hs.tape, hs.output⟩
  have hres : ∀ v, fn.results.toList.mapM (resA P σ) = some [v] → ∃ cv, (results fn a.tmps).run P w = .ok cv w ∧ Rv ρ (some μ) v cv := by
    intro v hv
    obtain ⟨cvs, h1, h2, h3⟩ := resA_spec (P := P) hs _ _ hv
    refine ⟨(if h : cvs.toArray.size = 1 then cvs.toArray[0] else .tuple cvs.toArray), ?_, tupOf_spec [v] cvs h2 h3⟩
    unfold results
    rw [Sem.run_bind, Array.mapM_eq_mapM_toList]
    rw [Sem.run_map, h1 _ (fun t => rfl) (fun b t => rfl)]
    rfl
  unfold retF at h
  split at h
  · rename_i hv
    obtain ⟨cv, h1, h2⟩ := hres _ hv
    refine ⟨cv, h1, ?_⟩
    subst h
    generalize hx : AV.slc 0 [] = x at h2
    cases h2 with
    | eslc _ m a hm => cases hx; exact absurd rfl hm
    | nilslc _ m => exact fin _ w.heap.size 0 (fun ag => .aslc0 _ _ _ _ none) hnone hs.size (by simp) (.inl rfl)
    | slc _ m es b o cap k c hm => cases hx; exact absurd rfl hm
    | _ => cases hx
  · rename_i b len esz ag hv
    obtain ⟨cv, h1, h2⟩ := hres _ hv
    split at h
    · rename_i x hx
      split at h
      · rename_i hc
        simp only [Bool.and_eq_true, decide_eq_true_eq] at hc
        obtain ⟨⟨ha, hk⟩, hpos⟩ := hc
        obtain ⟨⟨hl, hag⟩, rfl⟩ := h
        obtain ⟨c1, c2⟩ := chunks_all hl hag
        refine ⟨cv, h1, ?_⟩
        obtain ⟨b1, b2⟩ := hs.box b x hx
        have hlev : lev μ x = none := by unfold lev; rw [if_pos ha]
        rw [hlev] at b2
        subst hk
        by_cases hκ : (μ b).2 = 0
        · refine fin cv w.heap.size 0 (fun ag' => ?_) hnone hs.size (by rw [c2]; omega) (.inl rfl)
          rw [c1]
          cases h2 with
          | aslc _ _ _ _ _ _ cap hcap hr =>
            have hcz : cap * esz = 0 := by omega
            have hc0 : cap = 0 := by
              rcases Nat.mul_eq_zero.1 hcz with h | h
              · exact h
              · omega
            have hl0 : len = 0 := by omega
            subst hl0; subst hc0
            exact .aslc0 _ _ _ _ _
          | aslc0 _ _ _ _ p => exact .aslc0 _ _ _ _ p
        · refine fin cv (μ b).1 (μ b).2 (fun ag' => ?_) (hs.sep b _ (box_bx hx) hκ) ((hs.own b _ (box_bx hx) hκ (Nat.zero_le b)).elim id fun ⟨c, hc, _⟩ => absurd hc (Nat.not_lt_zero c)) (by rw [c2]; exact b1) ?_
          · rw [c1]
            cases h2 with
            | aslc _ _ _ _ _ _ cap hcap hr => exact .aslc (fun _ => ((μ b).1, (μ b).2)) 0 0 len esz ag' cap hcap hr
            | aslc0 _ _ _ _ p => exact .aslc0 _ _ _ _ p
          · rw [c2]
            rcases b2 with b2 | ⟨o, g1, g2⟩
            · exact absurd b2 hκ
            · obtain ⟨c, e, rfl, g3, g4⟩ := g2.get rfl
              exact .inr ⟨c, e, g1, g3, g4⟩
      · exact h.elim
    · exact h.elim
  · exact h.elim

theorem fresh_of {P : Program} (hil : InlOK P il) (hI : InlMf il) {f : FuncId} {fn : Func} {keep : Ctl} {args : List AV} {k : Nat} {es : List AV} (hm : P.follows .mixedOrders = true) (hf : P.funcs[f]? = some fn)
    (hcall : ∀ (vs : Array Value) (w : World), (callFunc f vs).run P w = .ok (.enter f vs) w) (hnt : args.length ≤ fn.ntmps)
    (h : awpG P (SpecsOf P frs il) keep fn args k (fun r => r = es)) : FreshOf0 P f args k es := by
  refine ⟨hcall, fun ρ w vs hro hargs => ?_⟩
  unfold awpG at h
  cases hb : fn.body with
  | none => simp [hb] at h
  | some c =>
    rw [hb] at h
    simp only at h
    refine callsIn_wide.1 (callsIn_of_wp_marks (F := Fence.wide) (n := 0) hf hb trivial ?_)
    let μ : Lay := fun _ => (0, 0)
    have hnb : ∀ b, (initSt fn args []).bx.getD b none = none := by
      intro b
      simp only [initSt, List.map_nil, List.nil_append, List.getD]
      cases hg : (List.replicate (fn.ntmps + 8) (none : Option Bx))[b]? with
      | none => rfl
      | some y => exact List.eq_of_mem_replicate (List.mem_of_getElem? hg)
    have hnbx : ∀ b cs, (initSt fn args []).box b = some cs → False := by
      intro b cs h
      obtain ⟨x, hx, -⟩ := box_some h
      rw [hnb b] at hx; cases hx
    have hs : Sat [] 0 μ ρ w ρ μ (initSt fn args []) { tmps := vs ++ Array.replicate (fn.ntmps - vs.size) Go.undef, defers := [] } w := by
      refine { dfe := rfl, defs := .nil _ _ _, sz := ?_, sl := ?_, box := fun b x hx => (by rw [hnb b] at hx; cases hx), inj := fun b b' cs cs' h => (hnbx b cs h).elim, sep := fun b cs h => (hnbx b cs h).elim, own := fun b cs h => (hnbx b cs h).elim, inc := fun _ _ => rfl, ro := hro, le := RO.le_refl ρ, new := ?_, frame := fun _ _ _ => rfl, size := Nat.le_refl _, os := rfl, tape := rfl, output := rfl }
      · simp only [initSt, List.length_append, List.length_replicate, Array.size_append, Array.size_replicate, hargs.1]
      · have h2 : Rvs ρ (some μ) (List.replicate (fn.ntmps - args.length) .undef) (Array.replicate (fn.ntmps - vs.size) Go.undef) := by
          refine ⟨by simp [hargs.1], fun j => ?_⟩
          have : (List.replicate (fn.ntmps - args.length) AV.undef).getD j .undef = .undef := by
            simp only [List.getD]
            cases hg : (List.replicate (fn.ntmps - args.length) AV.undef)[j]? with
            | none => rfl
            | some y => exact List.eq_of_mem_replicate (List.mem_of_getElem? hg)
          rw [this]; exact .undef ..
        exact (Rvs_append ⟨hargs.1, fun j => (hargs.2 j).any _⟩ h2).2
      · intro k o h h0
        rw [h0] at h; cases h
    refine awp_spec hm hil hI c none (.inl rfl) _ _ ρ μ _ _ w ?_ hs h
    rintro e a w' ds' _ ⟨ρ', μ', σ', hs', h'⟩
    have fin : retF P fn k σ' (fun r => r = es) → LeavesInM Fence.wide 0 P fn a.tmps (FreshG ρ w k es) a.defers .returning w' := fun h' =>
      (by
      have ha : a = ⟨a.tmps, ds'⟩ := by have := hs'.dfe; cases a; simp_all
      have hd := hs'.dfe
      rw [ha] at hs'
      rw [hd]
      exact Sat.leaves (fun ρ tmps w hs => retF_spec hs h') ds' a.tmps ρ' w' hs')
    cases e with
    | normal => exact fin h'
    | exit id => exact h'.elim
    | ret => exact fin h'
end
/-- Functions that are entered when they are called. -/
def EntersL (P : Program) : List (FuncId × Ctl) → Prop
  | [] => True
  | q :: r => (∀ (vs : Array Value) (w : World), (callFunc q.1 vs).run P w = .ok (.enter q.1 vs) w) ∧ EntersL P r
theorem EntersL.at {P : Program} : ∀ {l : List (FuncId × Ctl)}, EntersL P l → ∀ {f : FuncId} {c : Ctl}, l.lookup f = some c → ∀ (vs : Array Value) (w : World), (callFunc f vs).run P w = .ok (.enter f vs) w := by
  intro l
  induction l with
  | nil => intro _ f c h; simp at h
  | cons q r ih =>
    intro he f c h
    rw [List.lookup_cons] at h
    split at h
    · rename_i hq
      simp only [beq_iff_eq] at hq
      subst hq; exact he.1
    · exact ih he.2 h
theorem inlF_mf {P : Program} {S : Specs} (hI : InlMf S.inl) : InlMf (inlF P S) := by
  intro f args σ K K' h hk
  unfold inlF at hk ⊢
  split at hk
  case h_2 => exact hk.elim
  rename_i ctl fn hl hf
  split at hk
  case h_2 => exact hk.elim
  rename_i c hb
  split at hk
  case isFalse => exact hk.elim
  rename_i hc
  try simp only [hl, hf, hb]
  rw [if_pos hc]
  refine awp_mf hI c (fun e τ _ hk => ?_) hk
  cases e with
  | exit i => exact hk.elim
  | normal =>
    dsimp only at hk ⊢
    split at hk
    · rename_i vs hv; exact h _ _ rfl hk
    · exact hk.elim
  | ret =>
    dsimp only at hk ⊢
    split at hk
    · rename_i vs hv; exact h _ _ rfl hk
    · exact hk.elim
theorem inlF_ok {P : Program} {frs : Ways} {il : InlF} (hm : P.follows .mixedOrders = true) (hil : InlOK P il) (hI : InlMf il) (he : EntersL P frs.il) : InlOK P (inlF P (SpecsOf P frs il)) := by
  intro f args σ K hk ds n μ0 ρ0 w0 ρ μ a w vs hs hargs
  unfold inlF at hk
  split at hk
  case h_2 => exact hk.elim
  rename_i ctl fn hl hf
  split at hk
  case h_2 => exact hk.elim
  rename_i c hb
  split at hk
  case isFalse => exact hk.elim
  rename_i hc
  rw [Bool.and_eq_true] at hc
  obtain ⟨hc1, hc2⟩ := hc
  have hc1 : args.length ≤ fn.ntmps := by simpa using hc1
  simp only [allLive, Bool.and_eq_true, List.all_eq_true] at hc2
  have app : ∀ (p q : List AV), AV.refsL (p ++ q) = AV.refsL p ++ AV.refsL q := by
    intro p q
    induction p with
    | nil => rfl
    | cons c r ih => simp [AV.refsL, ih]
  have hlive : allLive σ = true := by
    simp only [allLive, Bool.and_eq_true, List.all_eq_true]
    exact ⟨fun b hb => hc2.1 b (by rw [app]; exact List.mem_append_left _ hb), hc2.2⟩
  refine ⟨EntersL.at he hl vs w, ?_⟩
  have hrep : ∀ k j, (List.replicate k AV.undef).getD j .undef = .undef := by
    intro k j
    simp only [List.getD]
    cases hg : (List.replicate k AV.undef)[j]? with
    | none => rfl
    | some y => exact List.eq_of_mem_replicate (List.mem_of_getElem? hg)
  have h2 : Rvs ρ (some μ) (List.replicate (fn.ntmps - args.length) .undef) (Array.replicate (fn.ntmps - vs.size) Go.undef) := ⟨by simp [hargs.1], fun j => by rw [hrep]; exact .undef ..⟩
  have hv := Rvs_append hargs h2
  have hrs := hs.restart hlive (sl := args ++ List.replicate (fn.ntmps - args.length) .undef) (tm := vs ++ Array.replicate (fn.ntmps - vs.size) Go.undef) hv.1 hv.2 (fun b hb => by
    rw [app] at hb
    rcases List.mem_append.1 hb with hb | hb
    · exact hc2.1 b (by rw [app]; exact List.mem_append_right _ hb)
    · obtain ⟨j, _, hj⟩ := refsL_mem hb
      rw [hrep] at hj; simp [AV.refs] at hj) (fn.ntmps + 8)
  refine callsIn_wide.1 (callsIn_of_wp_marks (F := Fence.wide) (n := 0) hf hb trivial ?_)
  refine awp_spec hm hil hI c none (.inl rfl) _ _ _ _ _ _ _ ?_ hrs hk
  rintro e a2 w2 ds' _ ⟨ρ2, μ2, τ, hi, hk2⟩
  have fin : (match fn.results.toList.mapM (resA P τ) with
      | some vs => K (tupOf vs) ⟨σ.sl, τ.bx⟩
      | none => False) → LeavesInM Fence.wide 0 P fn a2.tmps (fun e w' => ∃ cv, e = .returned cv ∧ ∃ ρ' v σ', K v σ' ∧ (backOK n σ.bx σ'.bx = true → (AV.refs v).all (live σ'.bx) = true → ∃ μ', Rv ρ' (some μ') v cv ∧ Sat ds n μ0 ρ0 w0 ρ' μ' σ' a w')) a2.defers .returning w2 := by
    intro hk3
    have ha : a2 = ⟨a2.tmps, ds'⟩ := by have := hi.dfe; cases a2; simp_all
    have hd := hi.dfe
    rw [ha] at hi
    rw [hd]
    refine Sat.leaves (fun ρ3 tmps w3 hs3 => ?_) ds' a2.tmps ρ2 w2 hi
    split at hk3
    case h_2 => exact hk3.elim
    rename_i us hus
    obtain ⟨cvs, r1, r2, r3⟩ := resA_spec (P := P) hs3 _ _ hus
    refine ⟨(if h : cvs.toArray.size = 1 then cvs.toArray[0] else .tuple cvs.toArray), ?_, _, rfl, ρ3, tupOf us, ⟨σ.sl, τ.bx⟩, hk3, fun hbk hlr => ⟨_, (tupOf_spec us cvs r2 r3).lay fun b hb => compose_lay hs3 hbk (List.all_eq_true.1 hlr b hb), hs.compose hlive hs3 hbk⟩⟩
    unfold results
    rw [Sem.run_bind, Array.mapM_eq_mapM_toList]
    rw [Sem.run_map, r1 _ (fun t => rfl) (fun b t => rfl)]
    rfl
  cases e with
  | normal => exact fin hk2
  | exit i => exact hk2.elim
  | ret => exact fin hk2
theorem mkS_ok {P : Program} {w : Ways} (hm : P.follows .mixedOrders = true) (he : EntersL P w.il) : ∀ k, ∃ il, mkS P (SpecOf P) (FreshOf P) (SeqOf P) w k = SpecsOf P w il ∧ InlOK P il ∧ InlMf il := by
  intro k
  induction k with
  | zero => exact ⟨fun _ _ _ _ => False, rfl, fun _ _ _ _ h => h.elim, fun _ _ _ _ _ _ h => h.elim⟩
  | succ k ih =>
    obtain ⟨il, h1, h2, h3⟩ := ih
    refine ⟨inlF P (mkS P (SpecOf P) (FreshOf P) (SeqOf P) w k), rfl, ?_, ?_⟩
    · rw [h1]; exact inlF_ok hm h2 h3 he
    · rw [h1]; exact inlF_mf h3
/-- A contract out of what the evaluator gives. -/
theorem spec_by {P : Program} {w : Ways} {k : Nat} {f : FuncId} {fn : Func} {keep : Ctl} {args : List AV} {boxes : List Bx} {css : List (List AV)} {n : Nat} {v : AV} {O' : List (List AV)} {R : Prop} (hm : P.follows .mixedOrders = true) (hil : EntersL P w.il) (hf : P.funcs[f]? = some fn)
    (hcall : ∀ (vs : Array Value) (w : World), (callFunc f vs).run P w = .ok (.enter f vs) w) (hn : boxes.length = n) (hcs : boxes.map (·.cs) = css) (harr : boxes.all (fun x => !x.arr) = true) (hnt : args.length ≤ fn.ntmps)
    (he : awpF P (mkS P (SpecOf P) (FreshOf P) (SeqOf P) w k) n keep fn args boxes (fun r O => r = v ∧ O = O') = R) (h : R) : SpecOf P f args css v O' := by
  subst hn; subst hcs; subst he
  obtain ⟨il, h1, h2, h3⟩ := mkS_ok hm hil k
  rw [h1] at h
  exact spec_of (frs := w) h2 h3 hm hf hcall harr hnt h
/-- The same for a function that gives a new slice. -/
theorem fresh_by {P : Program} {w : Ways} {k0 : Nat} {f : FuncId} {fn : Func} {keep : Ctl} {args : List AV} {k : Nat} {es : List AV} {R : Prop} (hm : P.follows .mixedOrders = true) (hil : EntersL P w.il) (hf : P.funcs[f]? = some fn)
    (hcall : ∀ (vs : Array Value) (w : World), (callFunc f vs).run P w = .ok (.enter f vs) w) (hnt : args.length ≤ fn.ntmps)
    (he : awpG P (mkS P (SpecOf P) (FreshOf P) (SeqOf P) w k0) keep fn args k (fun r => r = es) = R) (h : R) : FreshOf0 P f args k es := by
  subst he
  obtain ⟨il, h1, h2, h3⟩ := mkS_ok hm hil k0
  rw [h1] at h
  exact fresh_of (frs := w) h2 h3 hm hf hcall hnt h
end Go.Proofs.YtblebiafhhhflaaGreat

/- A region whose order is drawn: what it does in the order of the text it does in any order (the end). -/
import Derived.Test.YtdaanpgdjjodcaaD5
namespace Go.Proofs.Ytdaanpgdjjodcaa
open Go.RowKit

theorem apartL_spec {a b : List Nat} (h : apartL a b = true) : ∀ k ∈ a, k ∉ b := by
  intro k hk hb
  have := List.all_eq_true.1 h k hk
  simp [hb] at this

section
variable {P : Program} {S : Specs} {n : Nat}

theorem fpF_slot {d : Nat} {W : List Nat} {σ : St} {f : Nat} (h : f ∈ (σ.sl.getD d .undef).refs) : f ∈ fpF (some d) W σ := List.mem_append_left _ h
theorem fpF_box {d : Option Nat} {W : List Nat} {σ : St} {b f : Nat} {x : Bx} (hb : b ∈ W) (hx : σ.bx.getD b none = some x) (h : f ∈ x.refs) : f ∈ fpF d W σ :=
  List.mem_append_right _ (List.mem_flatMap.2 ⟨b, hb, by rw [hx]; exact h⟩)

theorem forceL_eq (l : List Nat) (k : List Nat → Prop) : forceL l k = k l := by
  induction l generalizing k with
  | nil => rfl
  | cons x r ih => cases x <;> simp only [forceL, ih]

theorem dops_trace {ops : Array Oper} {K : St → Prop} : ∀ (l : List Nat) (past : List Fp) (σ : St), dops P S n ops l past σ K →
    ∃ (t : List Stp) (σk : St), t.map (·.p.i) = l ∧ TrP P S n ops σ t σk ∧ K σk ∧ (∀ s ∈ t, WF ops σ.sl.length s) ∧ (∀ q ∈ past, ∀ s ∈ t, q.fits n ops s.p = true) ∧ t.Pairwise (fun a b => a.p.fits n ops b.p = true) ∧
      ∀ s ∈ t, ∀ d ∈ s.p.F, d ∈ allocsOf ops := by
  intro l
  induction l with
  | nil => intro past σ h; exact ⟨[], σ, rfl, rfl, h, by simp, by simp, .nil, by simp⟩
  | cons i r ih =>
    intro past σ h
    simp only [dops, forceL_eq] at h
    split at h
    · exact h.elim
    rename_i o ho
    split at h
    · exact h.elim
    · rename_i R F hf
      split at h
      · rename_i haft
        obtain ⟨v, U, h1, h2, h3⟩ := gop_local hf h
        split at h1
        · rename_i hpast
          generalize hp : (⟨i, o, R, fpW n o σ (σ.upd o.dst v U), F, fpF o.dst (fpW n o σ (σ.upd o.dst v U)) (σ.upd o.dst v U)⟩ : Fp) = p at h1 hpast
          obtain ⟨t, σk, t1, t2, t3, t4, t5, t6, t7⟩ := ih (p :: past) _ h1
          let s : Stp := ⟨p, v, U⟩
          have hl : (σ.upd o.dst v U).sl.length = σ.sl.length := by
            have := (stp_len σ s).1
            simp only [St.stp, s, ← hp] at this
            exact this
          refine ⟨s :: t, σk, ?_, ⟨?_, ?_⟩, t3, ?_, ?_, ?_, ?_⟩
          · rw [List.map_cons, t1]
            simp [s, ← hp]
          · intro τ ha hF K' hk
            simp only [s, ← hp] at ha hF hk ⊢
            exact h3 τ ha hF K' hk
          · simp only [St.stp, s, ← hp]; exact t2
          · intro q hq
            rcases List.mem_cons.1 hq with rfl | hq
            · refine ⟨fun e he => ?_, fun e he x hx f hfm => ?_, fun d hd hdl f hfm => ?_, fun e he => ?_, ?_⟩
              · simp only [s, ← hp]; exact (h2 e he).1
              · simp only [s, ← hp]; exact fpF_box (h2 e he).1 ((h2 e he).2 x hx) hfm
              · simp only [s, ← hp] at hd hfm ⊢
                rw [hd]
                refine fpF_slot ?_
                simp only [St.upd, St.put]
                rw [set_getD, if_pos ⟨rfl, hdl⟩]; exact hfm
              · simp only [s, ← hp] at he ⊢
                have := List.all_eq_true.1 haft e (by simpa using he)
                simpa using this
              · simp only [s, ← hp]; exact ho
            · rw [← hl]; exact t4 q hq
          · intro q hq s' hs'
            rcases List.mem_cons.1 hs' with rfl | hs'
            · exact List.all_eq_true.1 hpast q hq
            · exact t5 q (List.mem_cons_of_mem _ hq) s' hs'
          · exact .cons (fun s' hs' => t5 p (by simp) s' hs') t6
          · intro q hq d hdF
            rcases List.mem_cons.1 hq with rfl | hq
            · simp only [s, ← hp] at hdF
              have hal : ∃ t, o.op = .alloc t ∧ o.dst = some d := by
                cases hop : o.op with
                | alloc t =>
                  simp only [fpR, hop] at hf
                  split at hf
                  · rename_i d' hd'
                    simp only [Option.some.injEq, Prod.mk.injEq] at hf
                    rw [← hf.2] at hdF
                    simp only [List.mem_singleton] at hdF
                    exact ⟨t, rfl, by rw [hd', hdF]⟩
                  · cases hf
                | call c =>
                  exfalso
                  simp only [fpR, hop] at hf
                  split at hf
                  · cases hf
                  split at hf
                  · cases hf
                  · simp only [Option.some.injEq, Prod.mk.injEq] at hf; rw [← hf.2] at hdF; cases hdF
                  · split at hf
                    · split at hf
                      · simp only [Option.some.injEq, Prod.mk.injEq] at hf; rw [← hf.2] at hdF; cases hdF
                      · split at hf
                        · simp only [Option.some.injEq, Prod.mk.injEq] at hf; rw [← hf.2] at hdF; cases hdF
                        · cases hf
                    · simp only [Option.some.injEq, Prod.mk.injEq] at hf; rw [← hf.2] at hdF; cases hdF
                | binOp =>
                  exfalso
                  simp only [fpR, hop] at hf
                  split at hf
                  · cases hf
                  · simp only [Option.some.injEq, Prod.mk.injEq] at hf; rw [← hf.2] at hdF; cases hdF
                | _ =>
                  exfalso
                  simp only [fpR, hop] at hf
                  first | cases hf | skip
                  all_goals first | (simp only [Option.some.injEq, Prod.mk.injEq] at hf; rw [← hf.2] at hdF; cases hdF) | cases hdF
              obtain ⟨ty, hop, hdst⟩ := hal
              refine List.mem_filterMap.2 ⟨o, by simpa using Array.mem_of_getElem? ho, ?_⟩
              simp only [hop]; exact hdst
            · exact t7 q hq d hdF
        · exact h1.elim
      · exact h.elim
end

section
variable {P : Program} {frs : Ways} {n : Nat} {μ0 : Lay} {ρ0 : RO} {w0 : World} {ρ : RO} {μ : Lay} {σ : St} {a : Act} {w : World}

theorem gop_spec {ops : Array Oper} {i : Nat} {o : Oper} {g : Bool} {K : St → Prop} {Q : Exit → Act → World → Prop} {N : Act → World → Prop} (hi : ops[i]? = some o) (hs : Sat n μ0 ρ0 w0 ρ μ σ a w)
    (h : gop P (SpecsOf P frs) n (dstsOf ops.toList) g o σ K) (hN : ∀ a w, At n μ0 ρ0 w0 K a w → N a w) : wpOp P ops Q i N a w := by
  have run : aop P (SpecsOf P frs) n o σ (fun σ => split g o.dst σ K) → o.wp P a w N Q := by
    intro h
    refine Oper.wp_mono ?_ (aop_spec hs h)
    rintro a w ⟨ρ, μ, σ, hs, h⟩
    refine hN a w ?_
    unfold split at h
    split at h
    · rename_i d _ _ _
      split at h
      · rename_i b hb
        have hv := hs.sl d
        rw [hb] at hv
        generalize hu : a.tmps.getD d Go.undef = u at hv
        cases hv
        cases hbb : b with
        | true => exact ⟨ρ, μ, _, hs.reput (by rw [hu, hbb]; exact .tt _), h.1 hbb⟩
        | false => exact ⟨ρ, μ, _, hs.reput (by rw [hu, hbb]; exact .ff _), h.2 hbb⟩
      · exact ⟨ρ, μ, σ, hs, h⟩
    · exact ⟨ρ, μ, σ, hs, h⟩
  have skip : K (σ.put o.dst (.tup [])) → N (a.put o.dst Go.undef) w := fun h => hN _ _ ⟨ρ, μ, _, hs.put (.tup _ _ #[] rfl (fun j => .undef ..)), h⟩
  unfold wpOp
  simp only [hi]
  unfold gop at h
  split at h
  · rename_i hg
    rw [if_pos (by simp [Region.wanted, hg])]
    exact .inl (run h)
  · rename_i j want hg
    split at h
    · rename_i d hdj
      obtain ⟨y1, y2⟩ := yielded_of hdj hs
      have hw : ∀ b, yielded ops a.tmps j = some b → Region.wanted o (yielded ops a.tmps) = (b == want) := by
        intro b hb
        simp only [Region.wanted, hg, hb]
        cases b <;> cases want <;> rfl
      split at h
      · rename_i ht
        obtain ⟨h1, h2⟩ := y1 true (by rw [ht]; rfl)
        rw [hw _ h1]
        cases want with
        | true => exact .inl (run h)
        | false => exact skip h
      · rename_i ht
        obtain ⟨h1, h2⟩ := y1 false (by rw [ht]; rfl)
        rw [hw _ h1]
        cases want with
        | true => exact skip h
        | false => exact .inl (run h)
      · rename_i ht
        have h1 := y2 ht
        have : Region.wanted o (yielded ops a.tmps) = false := by
          simp only [Region.wanted, hg, h1]
          cases want <;> rfl
        rw [this]
        exact skip h
      · exact h.elim
    · exact h.elim

theorem any_order {ops : Array Oper} {K : St → Prop} {Q : Exit → Act → World → Prop} (hQ : ∀ a w, At n μ0 ρ0 w0 K a w → Q .normal a w) {σk : St} (hK : K σk) {L : Nat} :
    ∀ (k : Nat) (t : List Stp) (listed : Array Bool) (ρ : RO) (μ : Lay) (σ : St) (a : Act) (w : World), t.length = k → σ.sl.length = L → Sat n μ0 ρ0 w0 ρ μ σ a w → TrP P (SpecsOf P frs) n ops σ t σk →
      (∀ s ∈ t, WF ops L s) → t.Pairwise (fun a b => a.p.fits n ops b.p = true) → (∀ s ∈ t, ∀ d ∈ s.p.F, FreshP n d σ) → (t.map (·.p.i)).Nodup → listed.size = ops.size →
      (∀ i, i < ops.size → (listed.getD i true = false ↔ i ∈ t.map (·.p.i))) → wpAny P .any ops Q k listed a w := by
  intro k
  induction k with
  | zero =>
    intro t listed ρ μ σ a w hk hL hs ht hwf hfit hfr hlt hls hl
    have : t = [] := List.length_eq_zero_iff.1 hk
    subst this
    refine ⟨?_, hQ a w ⟨ρ, μ, σ, hs, by have : σ = σk := ht; rw [this]; exact hK⟩⟩
    rw [List.eq_nil_iff_forall_not_mem]
    intro j hj
    obtain ⟨h1, o, ho, _⟩ := mem_ready.1 hj
    have := (hl j (Array.getElem?_eq_some_iff.1 ho).1).1 h1
    simp at this
  | succ k ih =>
    intro t listed ρ μ σ a w hk hL hs ht hwf hfit hfr hlt hls hl
    have hsz : ∀ s ∈ t, s.p.i < ops.size := fun s hm => (Array.getElem?_eq_some_iff.1 (hwf s hm).op).1
    refine ⟨fun hnil => ?_, fun j hj => ?_⟩
    · exfalso
      cases t with
      | nil => simp at hk
      | cons s r =>
        have : s.p.i ∈ Region.ready .any ops listed := by
          refine mem_ready.2 ⟨(hl _ (hsz s (by simp))).2 (by simp), s.p.o, (hwf s (by simp)).op, fun e he hbd => ?_⟩
          obtain ⟨h1, h2⟩ := (hwf s (by simp)).after e he
          cases hg : listed.getD e.on false with
          | true => rfl
          | false =>
            have h3 : listed.getD e.on true = false := by
              simp only [Array.getD, dif_pos (by omega : e.on < listed.size)] at hg ⊢
              exact hg
            have h4 := (hl e.on h1).1 h3
            rw [List.map_cons] at h4
            rcases List.mem_cons.1 h4 with h5 | h5
            · exact absurd h5 h2
            · obtain ⟨q, hq, hqi⟩ := List.mem_map.1 h5
              have hf := (List.pairwise_cons.1 hfit).1 q hq
              simp only [Fp.fits, Bool.and_eq_true] at hf
              have := List.all_eq_true.1 hf.1.1 e (by simpa using he)
              simp [hbd, hqi] at this
        rw [hnil] at this
        cases this
    · obtain ⟨h1, o, ho, hall⟩ := mem_ready.1 hj
      have hjlt := (Array.getElem?_eq_some_iff.1 ho).1
      obtain ⟨s, hst, hsi⟩ := List.mem_map.1 ((hl j hjlt).1 h1)
      obtain ⟨pre, post, rfl⟩ := List.append_of_mem hst
      have hso : s.p.o = o := by
        have := (hwf s hst).op
        rw [hsi, ho] at this
        exact (Option.some.inj this).symm
      have hpw := List.pairwise_append.1 hfit
      have hind : ∀ q ∈ pre, WF ops L q ∧ Indep ops q s ∧ ∀ d ∈ q.p.F, n + d ∉ s.p.rf := by
        intro q hq
        have hf := hpw.2.2 q hq s (by simp)
        simp only [Fp.fits, Bool.and_eq_true, Bool.or_eq_true] at hf
        refine ⟨hwf q (List.mem_append_left _ hq), ?_⟩
        rcases hf.2 with h2 | h2
        · exfalso
          obtain ⟨e, he, hb⟩ := List.any_eq_true.1 h2
          simp only [Bool.and_eq_true, beq_iff_eq] at hb
          have h3 := hall e (by rw [← hso]; simpa using he) hb.1
          rw [hb.2] at h3
          have h4 := (hl q.p.i (hsz q (List.mem_append_left _ hq))).2 (List.mem_map.2 ⟨q, List.mem_append_left _ hq, rfl⟩)
          have h5 := hsz q (List.mem_append_left _ hq)
          simp only [Array.getD, dif_pos (by omega : q.p.i < listed.size)] at h3 h4
          rw [h4] at h3; cases h3
        · obtain ⟨⟨⟨⟨i1, i2⟩, i3⟩, i4⟩, i5⟩ := h2
          refine ⟨⟨i1, apartL_spec i2, apartL_spec i3, apartL_spec i4⟩, fun d hd => ?_⟩
          exact apartL_spec i5 (n + d) (List.mem_map.2 ⟨d, hd, rfl⟩)
      have hpost : ∀ q ∈ post, ∀ d ∈ q.p.F, n + d ∉ s.p.rf := by
        intro q hq d hd
        have hf := (List.pairwise_cons.1 hpw.2.1).1 q hq
        simp only [Fp.fits, Bool.and_eq_true] at hf
        exact apartL_spec hf.1.2 (n + d) (List.mem_map.2 ⟨d, hd, rfl⟩)
      have hb := TrP.bubble (hwf s hst) pre σ (fun q hq => ⟨(hind q hq).1, (hind q hq).2.1⟩) ht
      have hg := hb.1 σ ⟨fun _ _ => rfl, fun _ _ => rfl, rfl, rfl⟩ (hfr s hst) (fun τ => τ = σ.stp s) rfl
      rw [hso] at hg
      refine gop_spec ho hs hg ?_
      rintro a' w' ⟨ρ', μ', σ', hs', rfl⟩
      have hsub : (pre ++ post).Sublist (pre ++ s :: post) := List.Sublist.append_left (List.sublist_cons_self s post) pre
      refine ih (pre ++ post) _ ρ' μ' _ a' w' ?_ ?_ hs' hb.2 (fun q hq => hwf q (hsub.subset hq)) (hfit.sublist hsub) ?_ (hlt.sublist (hsub.map _)) (by simp [hls]) ?_
      · simp at hk ⊢; omega
      · rw [(stp_len σ s).1, hL]
      · intro q hq d hd
        refine (hfr q (hsub.subset hq) d hd).stp (by rw [hL]; exact hwf s hst) ?_
        rcases List.mem_append.1 hq with hq | hq
        · exact (hind q hq).2.2 d hd
        · exact hpost q hq d hd
      · intro i hi
        have hne : ∀ q ∈ pre ++ post, q.p.i ≠ s.p.i := by
          intro q hq he
          rw [List.map_append, List.map_cons] at hlt
          have h5 := List.pairwise_append.1 hlt
          rcases List.mem_append.1 hq with hq | hq
          · exact h5.2.2 q.p.i (List.mem_map.2 ⟨q, hq, rfl⟩) s.p.i (by simp) he
          · exact (List.pairwise_cons.1 h5.2.1).1 q.p.i (List.mem_map.2 ⟨q, hq, rfl⟩) he.symm
        by_cases hij : i = j
        · subst hij
          have : (listed.setIfInBounds i true).getD i true = true := by
            simp [Array.getD, hls, hi]
          rw [this]
          refine ⟨fun h => absurd h (by decide), fun h => ?_⟩
          obtain ⟨q, hq, hqi⟩ := List.mem_map.1 h
          exact absurd (hqi.trans hsi.symm) (hne q hq)
        · rw [getD_set_ne true (Ne.symm hij), hl i hi]
          simp only [List.map_append, List.map_cons, List.mem_append, List.mem_cons]
          constructor
          · rintro (h | h | h)
            · exact .inl h
            · exact absurd (h.trans hsi) hij
            · exact .inr h
          · rintro (h | h)
            · exact .inl h
            · exact .inr (.inr h)

theorem draw_spec {ops : Array Oper} {id : Nat} {ord : List Nat} {K : St → Prop} {Q : Exit → Act → World → Prop} (hm : P.follows .mixedOrders = true) (hQ : ∀ a w, At n μ0 ρ0 w0 K a w → Q .normal a w) (hs : Sat n μ0 ρ0 w0 ρ μ σ a w)
    (hfr : (allocsOf ops).all (fun d => freshB n d σ) = true) (hord : ordOK ops ord = true) (h : dops P (SpecsOf P frs) n ops ord [] σ K) : (Code.region id ops true).wp P Q a w := by
  refine wp_region_any hm ?_
  obtain ⟨t, σk, h1, h2, h3, h4, h5, h6, h7⟩ := dops_trace ord [] σ h
  simp only [ordOK, Bool.and_eq_true, decide_eq_true_eq, beq_iff_eq] at hord
  obtain ⟨⟨⟨o1, o2⟩, o3⟩, o4⟩ := hord
  have hsz : t.length = ops.size := by
    have := congrArg List.length h1
    simp only [List.length_map] at this
    omega
  refine any_order hQ h3 (L := σ.sl.length) ops.size t _ ρ μ σ a _ hsz rfl (hs.drawn _) h2 h4 h6 (fun s hs d hd => ?_) ?_ (by simp) ?_
  · exact freshB_to (List.all_eq_true.1 hfr d (h7 s hs d hd))
  · rw [h1]; exact o2
  · intro i hi
    rw [h1]
    have := List.all_eq_true.1 o1 i (List.mem_range.2 hi)
    simp only [List.contains_eq_mem, decide_eq_true_eq] at this
    simp [Array.getD, hi, this]
end
end Go.Proofs.Ytdaanpgdjjodcaa

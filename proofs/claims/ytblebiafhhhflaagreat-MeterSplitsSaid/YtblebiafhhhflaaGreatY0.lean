/- Regions whose order is drawn, of operations that leave the world as it is. -/
import Derived.Test.YtblebiafhhhflaaGreatG1
namespace Go.Proofs.YtblebiafhhhflaaGreat
open Go.RowKit
section
variable {P : Program} {frs : Ways} {il : InlF} {ds : List Deferred} {n : Nat} {μ0 : Lay} {ρ0 : RO} {w0 : World} {ρ : RO} {μ : Lay} {σ : St} {a : Act} {w : World}
variable {ro : Option Nat}
def pureOp : Op → Bool
  | .load .. | .indexAddr .. | .move .. | .build .. | .unOp .. | .fieldAddr .. => true
  | .binOp op .. => match op with
    | .add | .sub | .mul => true
    | _ => false
  | _ => false
def pureAt (ops : Array Oper) (i : Nat) (o : Oper) : Bool := !isGuard ops i && o.guard.isNone && pureOp o.op
/-- As At, what is known of memory that nobody writes staying as it is. -/
def AtP (ds : List Deferred) (n : Nat) (μ0 : Lay) (ρ0 : RO) (w0 : World) (ρ : RO) (K : St → Prop) (a : Act) (w : World) : Prop := ∃ μ σ, Sat ds n μ0 ρ0 w0 ρ μ σ a w ∧ K σ
theorem aopP_spec {o : Oper} {K : St → Prop} {Q : Exit → Act → World → Prop} (hp : pureOp o.op = true) (hs : Sat ds n μ0 ρ0 w0 ρ μ σ a w) (h : aop P (SpecsOf P frs il) n o σ K) : o.wpIn (Fr ro) 0 P a w (AtP ds n μ0 ρ0 w0 ρ K) Q := by
  have pop : ∀ op, op = o.op → (match popA P (ev σ) op with | some v => K (σ.put o.dst v) | none => False) → o.wpIn (Fr ro) 0 P a w (AtP ds n μ0 ρ0 w0 ρ K) Q := by
    intro op hop h
    split at h
    · rename_i v hv
      rw [hop] at hv
      obtain ⟨cv, h1, h2⟩ := popA_spec (fun x => hs.eval x) o hv w
      exact wp_val h1 ⟨μ, _, hs.put h2, h⟩
    · exact h.elim
  obtain ⟨dst, op, type, pos, after, guard⟩ := o
  unfold aop at h
  cases op with
  | load t x =>
    obtain ⟨v, cv, h1, h2, h3⟩ := loadA_spec hs (hs.eval x) h
    exact wp_val (lift_val h1) ⟨μ, _, hs.put h2, h3⟩
  | indexAddr t x j =>
    obtain ⟨v, cv, h1, h2, h3⟩ := indexAddrA_spec (hs.eval x) (hs.eval j) h w
    exact wp_val (lift_val h1) ⟨μ, _, hs.put h2, h3⟩
  | move x => exact pop _ rfl h
  | fieldAddr _ _ _ => exact pop _ rfl h
  | build t ps => exact pop _ rfl h
  | unOp op t x => exact pop _ rfl h
  | binOp op t x y yt =>
    cases op with
    | add =>
      simp only at h
      split at h
      · rename_i e es hn
        obtain ⟨b, h1, h2⟩ := nilCmp_spec (p := x) (q := y) hn (hs.eval x) (hs.eval y) w
        exact wp_val (lift_val h2) ⟨μ, _, hs.put (.bool _ b), h b h1⟩
      · exact pop _ rfl h
    | sub =>
      simp only at h
      split at h
      · rename_i e es hn
        obtain ⟨b, h1, h2⟩ := nilCmp_spec (p := x) (q := y) hn (hs.eval x) (hs.eval y) w
        exact wp_val (lift_val h2) ⟨μ, _, hs.put (.bool _ b), h b h1⟩
      · exact pop _ rfl h
    | mul =>
      simp only at h
      split at h
      · rename_i e es hn
        obtain ⟨b, h1, h2⟩ := nilCmp_spec (p := x) (q := y) hn (hs.eval x) (hs.eval y) w
        exact wp_val (lift_val h2) ⟨μ, _, hs.put (.bool _ b), h b h1⟩
      · exact pop _ rfl h
    | _ => cases hp
  | _ => cases hp
theorem gopP_spec {ops : Array Oper} {i : Nat} {o : Oper} {K : St → Prop} {Q : Exit → Act → World → Prop} {N : Act → World → Prop} (hi : ops[i]? = some o) (hp : pureAt ops i o = true) (hs : Sat ds n μ0 ρ0 w0 ρ μ σ a w)
    (h : gop P (SpecsOf P frs il) n (dstsOf ops.toList) (isGuard ops i) o σ K) (hN : ∀ a w, AtP ds n μ0 ρ0 w0 ρ K a w → N a w) : wpOpIn (Fr ro) 0 P ops Q i N a w := by
  simp only [pureAt, Bool.and_eq_true, Bool.not_eq_true', Option.isNone_iff_eq_none] at hp
  obtain ⟨⟨h1, h2⟩, h3⟩ := hp
  unfold wpOpIn
  simp only [hi]
  unfold gop at h
  rw [h1] at h
  simp only [h2, split] at h
  rw [if_pos (by simp [Region.wanted, h2])]
  exact Oper.wpIn_mono hN (aopP_spec h3 hs h)
theorem any_orderP {ops : Array Oper} {Q : Exit → Act → World → Prop} {σk : St} {L : Nat} {fin : List Nat}
    (hpure : ∀ i o, ops[i]? = some o → i ∉ fin → pureAt ops i o = true) (hfin : ∀ (listed : Array Bool) (μ : Lay) (a : Act) (w : World), listed.size = ops.size → Closed ops listed → (∀ i, i < ops.size → (listed.getD i true = false ↔ i ∈ fin)) → Sat ds n μ0 ρ0 w0 ρ μ σk a w → wpAnyIn (Fr ro) 0 P .any ops Q fin.length listed a w)
    (hlast : ∀ (listed : Array Bool) (j : Nat), listed.size = ops.size → Closed ops listed → j ∈ fin → j ∈ Region.ready .any ops listed → ∀ i, i < ops.size → listed.getD i true = false → i ∈ fin)
    (hwait : ∀ (i : Nat) (o : Oper), i ∉ fin → ops[i]? = some o → ∀ e ∈ o.after.toList, Region.binds .any e = true → e.on ∉ fin) :
    ∀ (k : Nat) (t : List Stp) (listed : Array Bool) (μ : Lay) (σ : St) (a : Act) (w : World), t.length = k → σ.sl.length = L → Sat ds n μ0 ρ0 w0 ρ μ σ a w → TrP P (SpecsOf P frs il) n ops σ t σk →
      (∀ s ∈ t, WF ops L s) → t.Pairwise (fun a b => a.p.fits n ops b.p = true) → (∀ s ∈ t, ∀ d ∈ s.p.F, FreshP n d σ) → (t.map (·.p.i)).Nodup → listed.size = ops.size →
      (∀ i, i < ops.size → (listed.getD i true = false ↔ i ∈ t.map (·.p.i) ∨ i ∈ fin)) → (∀ i ∈ t.map (·.p.i), i ∉ fin) → Closed ops listed → wpAnyIn (Fr ro) 0 P .any ops Q (k + fin.length) listed a w := by
  intro k
  induction k with
  | zero =>
    intro t listed μ σ a w hk hL hs ht hwf hfit hfr hlt hls hl hdj hcl
    have : t = [] := List.length_eq_zero_iff.1 hk
    subst this
    have hσ : σ = σk := ht
    subst hσ
    rw [Nat.zero_add]
    exact hfin listed μ a w hls hcl (fun i hi => by simpa using hl i hi) hs
  | succ k ih =>
    intro t listed μ σ a w hk hL hs ht hwf hfit hfr hlt hls hl hdj hcl
    have hsz : ∀ s ∈ t, s.p.i < ops.size := fun s hm => (Array.getElem?_eq_some_iff.1 (hwf s hm).op).1
    rw [Nat.succ_add]
    refine ⟨fun hnil => ?_, fun j hj => ?_⟩
    · exfalso
      cases t with
      | nil => simp at hk
      | cons s r =>
        have : s.p.i ∈ Region.ready .any ops listed := by
          refine mem_ready.2 ⟨(hl _ (hsz s (by simp))).2 (.inl (by simp)), s.p.o, (hwf s (by simp)).op, fun e he hbd => ?_⟩
          obtain ⟨h1, h2⟩ := (hwf s (by simp)).after e he
          cases hg : listed.getD e.on false with
          | true => rfl
          | false =>
            have h3 : listed.getD e.on true = false := by
              simp only [Array.getD, dif_pos (by omega : e.on < listed.size)] at hg ⊢
              exact hg
            have h4 := ((hl e.on h1).1 h3).resolve_right (hwait _ _ (hdj _ (by simp)) (hwf s (by simp)).op e (by simpa using he) hbd)
            rw [List.map_cons] at h4
            rcases List.mem_cons.1 h4 with h5 | h5
            · exact absurd h5 h2
            · obtain ⟨q, hq, hqi⟩ := List.mem_map.1 h5
              have hf := (List.pairwise_cons.1 hfit).1 q hq
              simp only [Fp.fits, Bool.and_eq_true] at hf
              have := List.all_eq_true.1 hf.1.1 e (by simpa using he)
              simp [hbd, hqi] at this
        rw [hnil] at this
        cases this
    · obtain ⟨h1, o, ho, hall⟩ := mem_ready.1 hj
      have hjlt := (Array.getElem?_eq_some_iff.1 ho).1
      have hjt : j ∈ t.map (·.p.i) := by
        rcases (hl j hjlt).1 h1 with h | h
        · exact h
        · exfalso
          cases t with
          | nil => simp at hk
          | cons s r =>
            have h2 := (hl s.p.i (hsz s (by simp))).2 (.inl (by simp))
            exact hdj s.p.i (by simp) (hlast listed j hls hcl h hj s.p.i (hsz s (by simp)) h2)
      obtain ⟨s, hst, hsi⟩ := List.mem_map.1 hjt
      obtain ⟨pre, post, rfl⟩ := List.append_of_mem hst
      have hso : s.p.o = o := by
        have := (hwf s hst).op
        rw [hsi, ho] at this
        exact (Option.some.inj this).symm
      have hpw := List.pairwise_append.1 hfit
      have hind : ∀ q ∈ pre, WF ops L q ∧ Indep ops q s ∧ ∀ d ∈ q.p.F, n + d ∉ s.p.rf := by
        intro q hq
        have hf := hpw.2.2 q hq s (by simp)
        simp only [Fp.fits, Bool.and_eq_true, Bool.or_eq_true] at hf
        refine ⟨hwf q (List.mem_append_left _ hq), ?_⟩
        rcases hf.2 with h2 | h2
        · exfalso
          obtain ⟨e, he, hb⟩ := List.any_eq_true.1 h2
          simp only [Bool.and_eq_true, beq_iff_eq] at hb
          have h3 := hall e (by rw [← hso]; simpa using he) hb.1
          rw [hb.2] at h3
          have h4 := (hl q.p.i (hsz q (List.mem_append_left _ hq))).2 (.inl (List.mem_map.2 ⟨q, List.mem_append_left _ hq, rfl⟩))
          have h5 := hsz q (List.mem_append_left _ hq)
          simp only [Array.getD, dif_pos (by omega : q.p.i < listed.size)] at h3 h4
          rw [h4] at h3; cases h3
        · obtain ⟨⟨⟨⟨i1, i2⟩, i3⟩, i4⟩, i5⟩ := h2
          refine ⟨⟨i1, apartL_spec i2, apartL_spec i3, apartL_spec i4⟩, fun d hd => ?_⟩
          exact apartL_spec i5 (n + d) (List.mem_map.2 ⟨d, hd, rfl⟩)
      have hpost : ∀ q ∈ post, ∀ d ∈ q.p.F, n + d ∉ s.p.rf := by
        intro q hq d hd
        have hf := (List.pairwise_cons.1 hpw.2.1).1 q hq
        simp only [Fp.fits, Bool.and_eq_true] at hf
        exact apartL_spec hf.1.2 (n + d) (List.mem_map.2 ⟨d, hd, rfl⟩)
      have hb := TrP.bubble (hwf s hst) pre σ (fun q hq => ⟨(hind q hq).1, (hind q hq).2.1⟩) ht
      have hg := hb.1 σ ⟨fun _ _ => rfl, fun _ _ => rfl, rfl, rfl⟩ (hfr s hst) (fun τ => τ = σ.stp s) rfl
      rw [hso, hsi] at hg
      refine gopP_spec ho (hpure j o ho (hdj j hjt)) hs hg ?_
      rintro a' w' ⟨μ', σ', hs', rfl⟩
      have hsub : (pre ++ post).Sublist (pre ++ s :: post) := List.Sublist.append_left (List.sublist_cons_self s post) pre
      refine ih (pre ++ post) _ μ' _ a' w' ?_ ?_ hs' hb.2 (fun q hq => hwf q (hsub.subset hq)) (hfit.sublist hsub) ?_ (hlt.sublist (hsub.map _)) (by simp [hls]) ?_ (fun i hi => hdj i ((hsub.map (·.p.i)).subset hi)) ?_
      · simp at hk ⊢; omega
      · rw [(stp_len σ s).1, hL]
      · intro q hq d hd
        refine (hfr q (hsub.subset hq) d hd).stp (by rw [hL]; exact hwf s hst) ?_
        rcases List.mem_append.1 hq with hq | hq
        · exact (hind q hq).2.2 d hd
        · exact hpost q hq d hd
      · intro i hi
        have hne : ∀ q ∈ pre ++ post, q.p.i ≠ s.p.i := by
          intro q hq he
          rw [List.map_append, List.map_cons] at hlt
          have h5 := List.pairwise_append.1 hlt
          rcases List.mem_append.1 hq with hq | hq
          · exact h5.2.2 q.p.i (List.mem_map.2 ⟨q, hq, rfl⟩) s.p.i (by simp) he
          · exact (List.pairwise_cons.1 h5.2.1).1 q.p.i (List.mem_map.2 ⟨q, hq, rfl⟩) he.symm
        by_cases hij : i = j
        · subst hij
          have : (listed.setIfInBounds i true).getD i true = true := by
            simp [Array.getD, hls, hi]
          rw [this]
          refine ⟨fun h => absurd h (by decide), fun h => ?_⟩
          rcases h with h | h
          · obtain ⟨q, hq, hqi⟩ := List.mem_map.1 h
            exact absurd (hqi.trans hsi.symm) (hne q hq)
          · exact absurd h (hdj _ hjt)
        · rw [getD_set_ne true (Ne.symm hij), hl i hi]
          simp only [List.map_append, List.map_cons, List.mem_append, List.mem_cons]
          constructor
          · rintro ((h | h | h) | h)
            · exact .inl (.inl h)
            · exact absurd (h.trans hsi) hij
            · exact .inl (.inr h)
            · exact .inr h
          · rintro ((h | h) | h)
            · exact .inl (.inl h)
            · exact .inl (.inr (.inr h))
            · exact .inr h
      · intro i o' ho' hi e he hbd
        have mono : ∀ x, listed.getD x false = true → (listed.setIfInBounds j true).getD x false = true := fun x hx => by
          by_cases hxj : j = x
          · subst hxj
            simp [Array.getD, hls, hjlt]
          · rw [getD_set_ne false hxj]; exact hx
        by_cases hij : i = j
        · subst hij
          rw [ho] at ho'; cases ho'
          exact mono _ (hall e (by simpa using he) hbd)
        · rw [getD_set_ne true (Ne.symm hij)] at hi
          exact mono _ (hcl i o' ho' hi e he hbd)

end
end Go.Proofs.YtblebiafhhhflaaGreat

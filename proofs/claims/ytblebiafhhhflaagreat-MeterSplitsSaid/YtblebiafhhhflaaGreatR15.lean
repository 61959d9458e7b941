/- Code: what the evaluator says of it holds of the machine's run; contracts out of the evaluator. -/
import Derived.Test.YtblebiafhhhflaaGreatR14
namespace Go.Proofs.YtblebiafhhhflaaGreat
open Go.RowKit

section
variable {frs : Ways} {il : InlF} {ds : List Deferred} {n : Nat} {μ0 : Lay} {ρ0 : RO} {w0 : World} {ρ : RO} {μ : Lay} {σ : St} {a : Act} {w : World}

/-- A slot of which more is said. -/
theorem Sat.reput (hs : Sat ds n μ0 ρ0 w0 ρ μ σ a w) {d : Nat} {v : AV} (hv : Rv ρ (some μ) v (a.tmps.getD d Go.undef)) : Sat ds n μ0 ρ0 w0 ρ μ (σ.put (some d) v) a w :=
  { hs with
    sz := by simp [St.put, hs.sz]
    sl := fun t => by
      simp only [St.put]
      rw [set_getD]
      split
      · rename_i h; rw [h.1]; exact hv
      · exact hs.sl t }
theorem Sat.clean (hs : Sat ds n μ0 ρ0 w0 ρ μ σ a w) (keep : List Nat) : Sat ds n μ0 ρ0 w0 ρ μ (clean keep σ) a w :=
  { hs with
    sz := by simp [Go.Proofs.YtblebiafhhhflaaGreat.clean, mapI_len, hs.sz]
    sl := fun t => by
      simp only [Go.Proofs.YtblebiafhhhflaaGreat.clean, List.getD, mapI_get]
      have := hs.sl t
      simp only [List.getD] at this
      cases hg : σ.sl[t]? with
      | none => exact .undef ..
      | some v =>
        rw [hg] at this
        simp only [Option.map_some, Option.getD_some] at this ⊢
        split
        · exact this
        · exact .undef .. }

variable {ro : Option Nat}
theorem wpOps_step {P : Program} {ops : Array Oper} {Q : Exit → Act → World → Prop} {i : Nat} {rest : List Nat} {o : Oper} (ho : ops[i]? = some o)
    (h : (Region.wanted o (yielded ops a.tmps) = true ∧ o.wpIn (Fr ro) 0 P a w (wpOpsIn (Fr ro) 0 P ops Q rest) Q) ∨ (Region.wanted o (yielded ops a.tmps) = false ∧ wpOpsIn (Fr ro) 0 P ops Q rest (a.put o.dst Go.undef) w)) :
    wpOpsIn (Fr ro) 0 P ops Q (i :: rest) a w := by
  simp only [wpOpsIn, ho]
  rcases h with ⟨h1, h2⟩ | ⟨h1, h2⟩
  · rw [if_pos h1]; exact h2
  · rw [if_neg (by simp [h1])]; exact ⟨fun _ _ => trivial, h2⟩

/-- What the guard of an operation sees. -/
theorem yielded_of {ops : Array Oper} {j d : Nat} (hd : (dstsOf ops.toList)[j]? = some (some d)) (hs : Sat ds n μ0 ρ0 w0 ρ μ σ a w) :
    (∀ b, (σ.sl.getD d .undef).isB = some b → yielded ops a.tmps j = some b ∧ a.tmps.getD d Go.undef = .bool b) ∧ (σ.sl.getD d .undef = .tup [] → yielded ops a.tmps j = none) := by
  have hdst : (ops[j]?).bind (·.dst) = some d := by
    simp only [dstsOf, List.getElem?_map, Array.getElem?_toList] at hd
    cases ho : ops[j]? with
    | none => simp [ho] at hd
    | some o => simpa [ho] using hd
  have hy : yielded ops a.tmps j = match a.tmps[d]? with | some (.bool b) => some b | _ => none := by
    unfold yielded
    rw [hdst]
    rfl
  constructor
  · intro b hb
    have hv := isB_spec hb (hs.sl d)
    refine ⟨?_, hv⟩
    rw [hy]
    rcases Nat.lt_or_ge d a.tmps.size with hl | hl
    · have : a.tmps[d]? = some (.bool b) := by
        rw [Array.getD, dif_pos hl] at hv
        rw [Array.getElem?_eq_getElem hl]
        simpa using hv
      rw [this]
    · rw [Array.getD, dif_neg (by omega)] at hv
      cases hv
  · intro ht
    have hv := hs.sl d
    rw [ht] at hv
    rw [hy]
    rcases Nat.lt_or_ge d a.tmps.size with hl | hl
    · rw [Array.getD, dif_pos hl] at hv
      simp only [Array.getInternal_eq_getElem] at hv
      rw [Array.getElem?_eq_getElem hl]
      generalize a.tmps[d] = u at hv
      cases hv; rfl
    · rw [Array.getElem?_eq_none hl]

theorem aops_spec {P : Program} (hil : InlOK P il) {ops : Array Oper} {K : St → Prop} {Q : Exit → Act → World → Prop} (hQ : ∀ a w, At ds n μ0 ρ0 w0 K a w → Q .normal a w) :
    ∀ (l : List Oper) (k : Nat) (ρ : RO) (μ : Lay) (σ : St) (a : Act) (w : World), ops.toList.drop k = l → Sat ds n μ0 ρ0 w0 ρ μ σ a w → aops P (SpecsOf P frs il) n (dstsOf ops.toList) l σ K → wpOpsIn (Fr ro) 0 P ops Q (List.range' k l.length) a w := by
  intro l
  induction l with
  | nil => intro k ρ μ σ a w _ hs h; exact hQ a w ⟨ρ, μ, σ, hs, h⟩
  | cons o r ih =>
    intro k ρ μ σ a w hd hs h
    have ho : ops[k]? = some o := by
      have : (ops.toList.drop k)[0]? = some o := by rw [hd]; rfl
      simpa using this
    have hr : ops.toList.drop (k + 1) = r := by
      have : (ops.toList.drop k).drop 1 = r := by rw [hd]; rfl
      rw [List.drop_drop] at this
      rw [← this, Nat.add_comm]
    have hrest : ∀ a w, At ds n μ0 ρ0 w0 (fun σ => aops P (SpecsOf P frs il) n (dstsOf ops.toList) r σ K) a w → wpOpsIn (Fr ro) 0 P ops Q (List.range' (k + 1) r.length) a w := by
      rintro a w ⟨ρ, μ, σ, hs, h⟩
      exact ih (k + 1) ρ μ σ a w hr hs h
    have hmono : ∀ σ, Sat ds n μ0 ρ0 w0 ρ μ σ a w → aop P (SpecsOf P frs il) n o σ (fun σ => aops P (SpecsOf P frs il) n (dstsOf ops.toList) r σ K) → o.wpIn (Fr ro) 0 P a w (wpOpsIn (Fr ro) 0 P ops Q (List.range' (k + 1) r.length)) Q :=
      fun σ hs h => Oper.wpIn_mono hrest (aop_spec hil hs h)
    have hskip : ∀ σ, Sat ds n μ0 ρ0 w0 ρ μ σ a w → aops P (SpecsOf P frs il) n (dstsOf ops.toList) r (σ.put o.dst (.tup [])) K → wpOpsIn (Fr ro) 0 P ops Q (List.range' (k + 1) r.length) (a.put o.dst Go.undef) w :=
      fun σ hs h => ih (k + 1) ρ μ _ _ w hr (hs.put (.tup _ _ #[] rfl (fun j => .undef ..))) h
    rw [List.length_cons, List.range'_succ]
    refine wpOps_step ho ?_
    simp only [aops] at h
    split at h
    · rename_i hg
      exact .inl ⟨by simp [Region.wanted, hg], hmono σ hs h⟩
    · rename_i j want hg
      split at h
      · rename_i d hdj
        obtain ⟨y1, y2⟩ := yielded_of hdj hs
        have hw : ∀ b, yielded ops a.tmps j = some b → Region.wanted o (yielded ops a.tmps) = (b == want) := by
          intro b hb
          simp only [Region.wanted, hg, hb]
          cases b <;> cases want <;> rfl
        split at h
        · rename_i ht
          obtain ⟨h1, h2⟩ := y1 true (by rw [ht]; rfl)
          split at h
          · rename_i hwant
            exact .inl ⟨by rw [hw _ h1]; simp [hwant], hmono σ hs h⟩
          · rename_i hwant
            exact .inr ⟨by rw [hw _ h1]; cases want <;> simp_all, hskip σ hs h⟩
        · rename_i ht
          obtain ⟨h1, h2⟩ := y1 false (by rw [ht]; rfl)
          split at h
          · rename_i hwant
            exact .inr ⟨by rw [hw _ h1]; cases want <;> simp_all, hskip σ hs h⟩
          · rename_i hwant
            exact .inl ⟨by rw [hw _ h1]; cases want <;> simp_all, hmono σ hs h⟩
        · rename_i b ht
          obtain ⟨h1, h2⟩ := y1 b (by rw [ht]; rfl)
          have htrue : b = true → Sat ds n μ0 ρ0 w0 ρ μ (σ.put (some d) .tt) a w := fun hb => hs.reput (by rw [h2, hb]; exact .tt _)
          have hfalse : b = false → Sat ds n μ0 ρ0 w0 ρ μ (σ.put (some d) .ff) a w := fun hb => hs.reput (by rw [h2, hb]; exact .ff _)
          split at h
          · rename_i hwant
            cases hb : b with
            | true => exact .inl ⟨by rw [hw _ h1, hb, hwant]; rfl, hmono _ (htrue hb) (h.1 hb)⟩
            | false => exact .inr ⟨by rw [hw _ h1, hb, hwant]; rfl, hskip _ (hfalse hb) (h.2 hb)⟩
          · rename_i hwant
            have hwant : want = false := by simpa using hwant
            cases hb : b with
            | true => exact .inr ⟨by rw [hw _ h1, hb, hwant]; rfl, hskip _ (htrue hb) (h.1 hb)⟩
            | false => exact .inl ⟨by rw [hw _ h1, hb, hwant]; rfl, hmono _ (hfalse hb) (h.2 hb)⟩
        · rename_i ht
          have h1 := y2 ht
          refine .inr ⟨?_, hskip σ hs h⟩
          simp only [Region.wanted, hg, h1]
          cases want <;> rfl
        · exact h.elim
      · exact h.elim

end
end Go.Proofs.YtblebiafhhhflaaGreat

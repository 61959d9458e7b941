/- Slice expressions, append, new boxes. -/
import Derived.Test.YtblebiafhhhflaaGreatR7
namespace Go.Proofs.YtblebiafhhhflaaGreat
open Go.RowKit
section
variable {ds : List Deferred} {n : Nat} {μ0 : Lay} {ρ0 : RO} {w0 : World} {ρ : RO} {μ : Lay} {σ : St} {a : Act} {w : World}

/-- An optional operand. -/
def RvQ (ρ : RO) (μ : Option Lay) (o : Option AV) (c : Option Value) : Prop := (o = none ∧ c = none) ∨ ∃ v cv, o = some v ∧ c = some cv ∧ Rv ρ μ v cv

theorem Rv.subslc {k : Nat} {m : Nat} {es : List AV} {B o cap : Nat} {c : Nat → Nat → Value} (l h : Nat) (hl : l ≤ h) (hh : h ≤ es.length) (hcap : es.length ≤ cap)
    (hk : ∀ i, i < es.length → (es.getD i .undef).cells.length = k)
    (hc : ∀ i (_ : i < es.length) j, j < k → ρ.cell B (o + i * k + j) = some (c i j))
    (hr : ∀ i j, Rv ρ none ((es.getD i .undef).cells.getD j .undef) (c i j)) (x : Option Lay) (cap' : Nat) (hcap' : h - l ≤ cap') (hm : m ≠ 0) (h2 : m = 2 → cap' = h - l) :
    Rv ρ x (.slc m ((es.drop l).take (h - l))) (.slice (some ⟨B, o + l * k, none⟩) (h - l) cap') := by
  have hlen : ((es.drop l).take (h - l)).length = h - l := by simp; omega
  have hg : ∀ i, i < h - l → ((es.drop l).take (h - l)).getD i .undef = es.getD (l + i) .undef := by
    intro i hi
    simp [List.getD, List.getElem?_take, hi]
  have := Rv.slc (ρ := ρ) x m ((es.drop l).take (h - l)) B (o + l * k) cap' k (fun i j => c (l + i) j) hm (by omega) (by rw [hlen]; exact h2)
    (fun i hi => by rw [hg i (by omega)]; exact hk _ (by omega))
    (fun i hi j hj => by
      have := hc (l + i) (by omega) j hj
      rw [Nat.add_mul] at this
      rw [show o + l * k + i * k + j = o + (l * k + i * k) + j by omega]; exact this)
    (fun i j => by
      rcases Nat.lt_or_ge i (h - l) with hi | hi
      · rw [hg i hi]; exact hr _ _
      · rw [show ((es.drop l).take (h - l)).getD i .undef = .undef from getD_le (by omega)]
        cases j with
        | zero => exact .undef ..
        | succ j => exact .undef ..)
  rw [hlen] at this
  exact this

theorem sliceA_spec {P : Program} {t : TypeId} {x : AV} {cx : Value} {lo hi mx : Option AV} {clo chi cmx : Option Value} {K : AV → Prop} (hs : Sat ds n μ0 ρ0 w0 ρ μ σ a w) (hx : Rv ρ (some μ) x cx)
    (hlo : RvQ ρ (some μ) lo clo) (hhi : RvQ ρ (some μ) hi chi) (hmx : RvQ ρ (some μ) mx cmx) (h : sliceA P t σ x lo hi mx K) :
    ∃ v cv, (Instr.sliceAt t cx clo chi cmx).run P w = .ok cv w ∧ Rv ρ (some μ) v cv ∧ K v := by
  unfold sliceA at h
  split at h
  · rename_i e hu
    split at h
    · exact h.elim
    rename_i hne
    obtain ⟨de, hde⟩ : ∃ d, P.underlying e = some d := by cases hh : P.underlying e <;> simp_all
    have hat : ∀ cv, (Instr.slice t cx clo chi cmx).run P w = .ok cv w → (Instr.sliceAt t cx clo chi cmx).run P w = .ok cv w := by
      intro cv hr
      simp only [Instr.sliceAt, Sem.run_bind, run_underlying hu, Result.andThen_ok]
      exact hr
    split at h
    · rename_i m es
      -- what the slice is
      have hsl : ∃ p cap, cx = .slice p es.length cap ∧ es.length ≤ cap := by
        cases hx with
        | nilslc => exact ⟨_, _, rfl, Nat.le_refl _⟩
        | eslc => exact ⟨_, _, rfl, Nat.le_refl _⟩
        | slc _ _ _ B o cap k c hm hcap h2 hk hc hh => exact ⟨_, _, rfl, hcap⟩
      obtain ⟨p, cap, rfl, hcap⟩ := hsl
      split at h
      · rename_i k1 l f1 k2 hh2 f2 e1 e2
        rcases hmx with ⟨-, rfl⟩ | ⟨v, cv, hmm, -⟩
        case inr => cases hmm
        have hb : 0 ≤ l ∧ l ≤ hh2 ∧ hh2 ≤ es.length ∧ (lo = none ∨ elemsOf (P.cellsOf e) es) ∧ K (.slc 3 ((es.drop l.toNat).take (hh2.toNat - l.toNat))) := by
          split at h
          · simp only [bnd, Option.some.injEq, Prod.mk.injEq] at e1
            obtain ⟨-, rfl, -⟩ := e1
            exact ⟨by omega, h.1.1, h.1.2, .inl rfl, by simpa using h.2⟩
          · exact ⟨h.1.1, h.1.2.1, h.1.2.2.1, .inr h.1.2.2.2, h.2⟩
        obtain ⟨g0, g1, g2, g3, hK⟩ := hb
        have hrun := run_bounds (P := P) (ρ := ρ) (μ := μ) (isS := true) (cap := cap) e1 e2 hlo hhi g0 g1 (by omega) w
        obtain ⟨ln, rfl⟩ : ∃ k : Nat, l = k := ⟨l.toNat, by omega⟩
        obtain ⟨hn, rfl⟩ : ∃ k : Nat, hh2 = k := ⟨hh2.toNat, by omega⟩
        simp only [Int.toNat_natCast] at *
        refine ⟨_, .slice (if cap = ln then p else p.map (·.add (ln * P.cellsOf e))) (hn - ln) (cap - ln), hat _ ?_, ?_, hK⟩
        · simp only [Instr.slice, Sem.run_bind, run_underlying hu, Result.andThen_ok, hrun, run_sizeOf' hde]
          rfl
        · cases hx with
          | nilslc =>
            have : ln = 0 ∧ hn = 0 := by simp at g2; omega
            obtain ⟨rfl, rfl⟩ := this
            simp only [List.drop_nil, List.take_nil, Option.map_none, ite_self]
            exact .nilslc _ 3
          | eslc _ _ a0 =>
            have : ln = 0 ∧ hn = 0 := by simp at g2; omega
            obtain ⟨rfl, rfl⟩ := this
            simp only [List.drop_nil, List.take_nil]
            exact .eslc _ 3 a0 (by simp)
          | slc _ _ _ B o _ k c hm _ h2 hk hc hh =>
            by_cases hz : es = []
            · subst hz
              have : ln = 0 ∧ hn = 0 := by simp at g2; omega
              obtain ⟨rfl, rfl⟩ := this
              have := Rv.subslc (ρ := ρ) (m := 3) (k := k) 0 0 (Nat.le_refl _) (by simp) hcap hk hc hh (some μ) (cap - 0) (by omega) (by simp) (by simp)
              simp only [Nat.zero_mul, Nat.add_zero] at this
              split
              · exact this
              · simp only [Option.map_some, Nat.zero_mul]
                rw [add_addr]; exact this
            · have hpos : 0 < es.length := List.length_pos_iff.2 hz
              have hkl : ln = 0 ∨ k = P.cellsOf e := by
                rcases g3 with hlo' | hel
                · left
                  subst hlo'
                  simp only [bnd, Option.some.injEq, Prod.mk.injEq] at e1
                  omega
                · right
                  rw [← hk 0 hpos]
                  have : es.getD 0 .undef ∈ es := by
                    simp only [List.getD, List.getElem?_eq_getElem hpos, Option.getD_some]
                    exact List.getElem_mem hpos
                  exact hel _ this
              have hmul : ln * P.cellsOf e = ln * k := by rcases hkl with h | h <;> simp [h]
              have := Rv.subslc (ρ := ρ) (m := 3) (k := k) ln hn (by omega) (by omega) hcap hk hc hh (some μ) (cap - ln) (by omega) (by simp) (by simp)
              by_cases hcl : cap = ln
              · rw [if_pos hcl]
                have he0 : hn - ln = 0 := by omega
                have hnil : (es.drop ln).take (hn - ln) = [] := by rw [he0]; simp
                rw [hnil, he0, show cap - ln = 0 by omega]
                exact Rv.slc (ρ := ρ) (some μ) 3 [] B o 0 0 (fun _ _ => Go.undef) (by simp) (by simp) (by simp) (by simp) (by simp) (fun i j => by cases j <;> exact .undef ..)
              · rw [if_neg hcl]
                simp only [Option.map_some]
                rw [add_addr, hmul]; exact this
      · rename_i k1 l f1 k2 hh2 f2 mv e1 e2
        split at h
        · rename_i k3 mm f3 hiv hm3
          obtain ⟨⟨g0, g1, g2⟩, hK⟩ := h
          rcases hlo with ⟨-, rfl⟩ | ⟨v, cv, hmm, -⟩
          case inr => cases hmm
          rcases hmx with ⟨hmm, -⟩ | ⟨v, cv, hmm, rfl, hv⟩
          case inl => cases hmm
          cases hmm
          rcases hhi with ⟨hmm, -⟩ | ⟨v', cv', hmm, rfl, hv'⟩
          case inl => cases hmm
          cases hmm
          have i1 := isI_spec hm3 hv
          have i2 := isI_spec e2 hv'
          subst i1 i2 g1
          obtain ⟨hn, rfl⟩ : ∃ k : Nat, hh2 = k := ⟨hh2.toNat, by omega⟩
          simp only [Int.toNat_natCast] at *
          have hrun : (Instr.sliceBounds true es.length cap none (some (.int k2 hn)) (some (.int k3 hn))).run P w = .ok (0, hn, hn) w := by
            simp [Instr.sliceBounds, run_sliceBound (k := k3) (i := (hn : Int)) (y := cap) (by omega) (by omega), run_sliceBound (k := k2) (i := (hn : Int)) (y := hn) (by omega) (by omega)]
          refine ⟨_, .slice (if hn = 0 then p else p.map (·.add (0 * P.cellsOf e))) (hn - 0) (hn - 0), hat _ ?_, ?_, hK⟩
          · simp only [Instr.slice, Sem.run_bind, run_underlying hu, Result.andThen_ok, hrun, run_sizeOf' hde]
            rfl
          · cases hx with
            | nilslc =>
              have : hn = 0 := by simp at g2; omega
              subst this
              simp only [List.take_nil, if_true]
              exact .nilslc _ 2
            | eslc _ _ a0 =>
              have : hn = 0 := by simp at g2; omega
              subst this
              simp only [List.take_nil]
              exact .eslc _ 2 a0 (by simp)
            | slc _ _ _ B o _ k c hm _ h2 hk hc hh =>
              have := Rv.subslc (ρ := ρ) (m := 2) (k := k) 0 hn (by omega) (by omega) hcap hk hc hh (some μ) hn (by omega) (by simp) (by simp)
              simp only [Nat.zero_mul, Nat.add_zero, List.drop_zero, Nat.sub_zero] at this ⊢
              split
              · exact this
              · simp only [Option.map_some]
                rw [add_addr]; exact this
        · exact h.elim
      · exact h.elim
    · rename_i b off len esz ag
      split at h
      · rename_i k1 l f1 k2 hh2 f2 e1 e2
        rcases hmx with ⟨-, rfl⟩ | ⟨v, cv, hmm, -⟩
        case inr => cases hmm
        obtain ⟨⟨g0, g1, g2, g3, g4⟩, hK⟩ := h
        cases hx with
        | aslc _ _ _ _ _ _ cap hcap hr =>
          have hrun := run_bounds (P := P) (ρ := ρ) (μ := μ) (isS := true) (cap := cap) e1 e2 hlo hhi g0 g1 (by omega) w
          obtain ⟨ln, rfl⟩ : ∃ k : Nat, l = k := ⟨l.toNat, by omega⟩
          obtain ⟨hn, rfl⟩ : ∃ k : Nat, hh2 = k := ⟨hh2.toNat, by omega⟩
          simp only [Int.toNat_natCast] at *
          refine ⟨_, .slice (some ⟨(μ b).1, off + ln * esz, none⟩) (hn - ln) (cap - ln), hat _ ?_, ?_, hK⟩
          · simp only [Instr.slice, Sem.run_bind, run_underlying hu, Result.andThen_ok, hrun, run_sizeOf' hde]
            rw [if_neg (by omega)]
            simp only [Option.map_some, Sem.run_pure]
            rw [add_addr, g4]
          · refine .aslc μ b _ _ esz ag _ (by omega) ?_
            have : ln * esz + (cap - ln) * esz = cap * esz := by rw [← Nat.add_mul]; congr 1; omega
            omega
        | aslc0 => omega
      · exact h.elim
    · exact h.elim
  · rename_i nn e hu
    split at h
    · rename_i k1 l k2 hh2 e1 e2
      rcases hmx with ⟨-, rfl⟩ | ⟨v, cv, hmm, -⟩
      case inr => cases hmm
      split at h
      · rename_i hcond
        obtain ⟨g0, g1, g2, g3, g4⟩ := hcond
        obtain ⟨de, hde⟩ : ∃ d, P.underlying e = some d := by cases hh : P.underlying e <;> simp_all
        split at h
        · rename_i b off
          split at h
          · rename_i cs hb
            split at h
            · rename_i hfit
              cases hx with
              | ref =>
                have hrun := run_bounds (P := P) (ρ := ρ) (μ := μ) (isS := false) (cap := nn) e1 e2 hlo hhi g0 g1 g2 w
                obtain ⟨ln, rfl⟩ : ∃ k : Nat, l = k := ⟨l.toNat, by omega⟩
                obtain ⟨hn, rfl⟩ : ∃ k : Nat, hh2 = k := ⟨hh2.toNat, by omega⟩
                simp only [Int.toNat_natCast] at *
                refine ⟨_, .slice (some ⟨(μ b).1, off + ln * P.cellsOf e, none⟩) (hn - ln) (nn - ln), ?_, ?_, h⟩
                · simp only [Instr.sliceAt, Sem.run_bind, run_underlying hu, Result.andThen_ok, Instr.sureAddr, Sem.run_pure, hrun, run_sizeOf' hde]
                  rw [if_neg (by omega), add_addr]
                · refine .aslc μ b _ _ _ _ _ (by omega) ?_
                  obtain ⟨y, hy, rfl⟩ := box_some hb
                  have h1 := (hs.box b y hy).len
                  have : ln * P.cellsOf e + (nn - ln) * P.cellsOf e = nn * P.cellsOf e := by rw [← Nat.add_mul]; congr 1; omega
                  omega
            · exact h.elim
          · exact h.elim
        · exact h.elim
      · exact h.elim
    · exact h.elim
  · rename_i hu
    split at h
    · rename_i s
      split at h
      · rename_i k1 l f1 k2 hh2 f2 e1 e2
        rcases hmx with ⟨-, rfl⟩ | ⟨v, cv, hmm, -⟩
        case inr => cases hmm
        obtain ⟨⟨g0, g1, g2⟩, hK⟩ := h
        cases hx
        have hrun := run_bounds (P := P) (ρ := ρ) (μ := μ) (isS := false) (len := s.size) (cap := s.size) e1 e2 hlo hhi g0 g1 g2 w
        refine ⟨_, _, ?_, .str .., hK⟩
        simp only [Instr.sliceAt, Sem.run_bind, run_underlying hu, Result.andThen_ok]
        simp only [Instr.slice, Sem.run_bind, run_underlying hu, Result.andThen_ok, hrun, Option.isSome_none, Bool.false_eq_true, if_false, Sem.run_pure]
      · exact h.elim
    · exact h.elim
  · exact h.elim
end
end Go.Proofs.YtblebiafhhhflaaGreat

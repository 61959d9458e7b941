/- All operations that look at their operands alone. -/
import Derived.Test.YtblebiafhhhflaaGreatR2
namespace Go.Proofs.YtblebiafhhhflaaGreat
open Go.RowKit

theorem eqA_undef_l (P : Program) (d : Nat) (t : TypeId) (y : AV) : eqA P d t .undef y = none := by
  cases d with
  | zero => rfl
  | succ d => simp only [eqA]; cases P.underlying t with
    | none => rfl
    | some u => cases u <;> simp [AV.isB, AV.isI]
theorem eqA_undef_r (P : Program) (d : Nat) (t : TypeId) (x : AV) : eqA P d t x .undef = none := by
  cases d with
  | zero => rfl
  | succ d => simp only [eqA]; cases P.underlying t with
    | none => rfl
    | some u => cases u <;> cases x <;> simp [AV.isB, AV.isI]

theorem isNilConst_spec {x : Operand} (h : isNilConst x = true) : x = .const .nilIface := by
  unfold isNilConst at h
  split at h
  · rfl
  · cases h

theorem eqGuard_nil {P : Program} (op : BinOp) (t : TypeId) (a b : Operand) (w : World) (hc : (isNilConst a || isNilConst b) = true) : (eqGuard op t a b .nilIface .nilIface).run P w = .ok () w := by
  rcases Bool.or_eq_true_iff.1 hc with h | h
  · rw [isNilConst_spec h]
    unfold eqGuard
    cases op <;> simp
  · rw [isNilConst_spec h]
    unfold eqGuard
    cases op <;> simp
theorem run_binOp_eq {P : Program} (op : BinOp) (t : TypeId) (cx cy : Value) (w : World) (e b : Bool) (he : isEq op = some e)
    (hb : ∀ D, 12 ≤ D → (Op.equalIn D t cx cy).run P w = .ok b w)
    (hn : (∀ k n, cx ≠ .int k n) ∧ (∀ k n, cx ≠ .float k n) ∧ (∀ k n m, cx ≠ .complex k n m) ∧ (∀ s, cx ≠ .string s)) :
    (binOp op t cx cy).run P w = .ok (.bool (if e then b else !b)) w := by
  have hq : (Op.equal t cx cy).run P w = .ok b w := hb 10000 (by omega)
  obtain ⟨h1, h2, h3, h4⟩ := hn
  cases op <;> simp only [isEq, Option.some.injEq, reduceCtorEq] at he <;> subst he <;> cases cx <;>
    first
      | exact absurd rfl (h1 _ _)
      | exact absurd rfl (h2 _ _)
      | exact absurd rfl (h3 _ _ _)
      | exact absurd rfl (h4 _)
      | simp [binOp, hq]

theorem binA_spec {P : Program} {op : BinOp} {t : TypeId} {x y : AV} {a b : Operand} {v : AV} {ρ : RO} {μ : Option Lay} {cx cy : Value}
    (h : binA P op t (isNilConst a || isNilConst b) x y = some v) (hx : Rv ρ μ x cx) (hy : Rv ρ μ y cy) (w : World) :
    ∃ cv, (do eqGuard op t a b cx cy; binOp op t cx cy : Sem Value).run P w = .ok cv w ∧ Rv ρ μ v cv := by
  unfold binA at h
  split at h
  · rename_i k p l k' q l' hp hq
    rw [isI_spec hp hx, isI_spec hq hy]
    split at h
    · rename_i hk
      subst hk
      obtain ⟨cv, h1, h2⟩ := binI_spec h ρ μ t w (P := P)
      refine ⟨cv, ?_, h2⟩
      rw [Sem.run_bind, eqGuard_ok w (by simp) (by simp)]
      exact h1
    · cases h
  · split at h
    · cases h; cases hx; cases hy
      exact ⟨_, by rw [Sem.run_bind, eqGuard_ok w (by simp) (by simp)]; rfl, .bool ..⟩
    · cases h; cases hx; cases hy
      exact ⟨_, by rw [Sem.run_bind, eqGuard_ok w (by simp) (by simp)]; rfl, .bool ..⟩
    · cases h; cases hx; cases hy
      exact ⟨_, by rw [Sem.run_bind, eqGuard_ok w (by simp) (by simp)]; rfl, .bool ..⟩
    · cases h; cases hx; cases hy
      exact ⟨_, by rw [Sem.run_bind, eqGuard_ok w (by simp) (by simp)]; rfl, .bool ..⟩
    · cases h; cases hx; cases hy
      exact ⟨_, by rw [Sem.run_bind, eqGuard_ok w (by simp) (by simp)]; rfl, .bool ..⟩
    · cases h; cases hx; cases hy
      exact ⟨_, by rw [Sem.run_bind, eqGuard_ok w (by simp) (by simp)]; rfl, .bool ..⟩
    · cases h
    · split at h
      · rename_i hc
        rw [Bool.and_eq_true] at hc
        obtain ⟨hc, hu⟩ := hc
        obtain ⟨ms, hu⟩ : ∃ ms, P.underlying t = some (.interface ms) := by
          unfold isIfaceT at hu
          split at hu
          · exact ⟨_, ‹_›⟩
          · cases hu
        obtain ⟨e, he, rfl⟩ := Option.map_eq_some_iff.1 h
        cases hx; cases hy
        have hg : (eqGuard op t a b .nilIface .nilIface).run P w = .ok () w := eqGuard_nil op t a b w hc
        refine ⟨.bool (if e then true else !true), ?_, by cases e <;> first | exact .ff _ | exact .tt _⟩
        rw [Sem.run_bind, hg]
        exact run_binOp_eq op t _ _ w e true he (fun D hD => by obtain ⟨D, rfl⟩ : ∃ D', D = D' + 1 := ⟨D - 1, by omega⟩; simp [Op.equalIn, run_underlying hu]) (by simp)
      · cases h
    · split at h
      · cases h
      · rename_i hg
        split at h
        · rename_i e bb he hb
          cases h
          have hxa := hx; have hya := hy
          cases hx with
          | agg _ _ vx hlx hhx => cases hy with
            | agg _ _ vy hly hhy =>
              refine ⟨.bool (if e then bb else !bb), ?_, .bool ..⟩
              rw [Sem.run_bind, eqGuard_ok w (by simp) (fun _ => by simpa using hg)]
              exact run_binOp_eq op t _ _ w e bb he (fun D hD => eqA_spec 12 t _ _ bb _ _ D w hb hD hxa hya) (by simp)
        · cases h
    · rename_i hnn haa
      split at h
      · rename_i hcm
        rw [Bool.and_eq_true] at hcm
        split at h
        · rename_i e bb he hb
          have hxa := hx; have hya := hy
          have hnice : (∀ k n, cx ≠ .int k n) ∧ (∀ k n, cx ≠ .float k n) ∧ (∀ k n m, cx ≠ .complex k n m) ∧ (∀ s, cx ≠ .string s) := by
            obtain ⟨hc1, -⟩ := hcm
            cases hx <;> simp_all [AV.cmp]
          have hg : (eqGuard op t a b cx cy).run P w = .ok () w := by
            refine eqGuard_ok w ?_ ?_
            · rintro ⟨rfl, rfl⟩
              obtain ⟨hc1, hc2⟩ := hcm
              cases hx <;> cases hy <;> simp_all [AV.cmp]
            · rintro ⟨p, q, rfl, rfl⟩
              obtain ⟨hc1, hc2⟩ := hcm
              cases hx <;> simp_all [AV.cmp]
          refine ⟨.bool (if e then bb else !bb), ?_, ?_⟩
          · rw [Sem.run_bind, hg]
            exact run_binOp_eq op t _ _ w e bb he (fun D hD => eqA_spec 12 t _ _ bb _ _ D w hb hD hxa hya) hnice
          · cases h
            split
            · exact .bool ..
            · exact Rv.mkB ..
        · cases h
      · cases h
end Go.Proofs.YtblebiafhhhflaaGreat

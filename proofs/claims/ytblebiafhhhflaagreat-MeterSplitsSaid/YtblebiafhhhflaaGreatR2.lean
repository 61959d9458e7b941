/- '==', and all operations that look at their operands alone. -/
import Derived.Test.YtblebiafhhhflaaGreatR1
namespace Go.Proofs.YtblebiafhhhflaaGreat
open Go.RowKit

theorem eqFieldsA_spec {P : Program} {eq : TypeId → AV → AV → Option Bool} {D : Nat} {ρ : RO} {μ : Option Lay}
    (heq : ∀ t x y b cx cy (w : World), eq t x y = some b → Rv ρ μ x cx → Rv ρ μ y cy → (Op.equalIn D t cx cy).run P w = .ok b w)
    {xs ys : List AV} {cx cy : Array Value} (hx : RvC ρ μ xs cx) (hxl : xs.length ≤ cx.size) (hy : RvC ρ μ ys cy) (hyl : ys.length ≤ cy.size) (w : World) :
    ∀ (fs : List Field) (b : Bool), eqFieldsA eq P xs ys fs = some b → (Op.eqFields D cx cy fs).run P w = .ok b w := by
  intro fs
  induction fs with
  | nil => intro b h; cases h; simp [Op.eqFields]
  | cons f r ih =>
    intro b h
    simp only [eqFieldsA] at h
    simp only [Op.eqFields, Sem.run_ite]
    split at h
    · rename_i hn
      rw [if_pos hn]
      split at h
      · rename_i a1 a2 h1 h2
        split at h
        · rename_i x y h3 h4
          cases h
          obtain ⟨c1, r1, v1⟩ := partA_spec h1 hx hxl w
          obtain ⟨c2, r2, v2⟩ := partA_spec h2 hy hyl w
          simp only [Sem.run_bind, r1, r2, Result.andThen_ok, heq _ _ _ _ _ _ w h3 v1 v2]
          cases x <;> simp [ih y h4]
        · cases h
      · cases h
    · rename_i hn
      rw [if_neg hn]
      exact ih b h

theorem eqElemsA_spec {P : Program} {eq : AV → AV → Option Bool} {D : Nat} {e : TypeId} {ρ : RO} {μ : Option Lay}
    (heq : ∀ x y b cx cy (w : World), eq x y = some b → Rv ρ μ x cx → Rv ρ μ y cy → (Op.equalIn D e cx cy).run P w = .ok b w)
    {xs ys : List AV} {cx cy : Array Value} (hx : RvC ρ μ xs cx) (hxl : xs.length ≤ cx.size) (hy : RvC ρ μ ys cy) (hyl : ys.length ≤ cy.size) (w : World) :
    ∀ (n i : Nat) (b : Bool), eqElemsA eq P e xs ys i n = some b →
      (forIn (m := Sem) (List.range' i n) ((none, ()) : Option Bool × Unit) fun i _ => do
          let a ← part e cx (i * P.cellsOf e)
          let b ← part e cy (i * P.cellsOf e)
          let r ← Op.equalIn D e a b
          if (!r) = true then pure (ForInStep.done (some false, ())) else pure (ForInStep.yield (none, ()))).run P w = .ok (if b then (none, ()) else (some false, ())) w := by
  intro n
  induction n with
  | zero => intro i b h; cases h; simp
  | succ n ih =>
    intro i b h
    simp only [eqElemsA] at h
    split at h
    · rename_i a1 a2 h1 h2
      split at h
      · rename_i x y h3 h4
        cases h
        obtain ⟨c1, r1, v1⟩ := partA_spec h1 hx hxl w
        obtain ⟨c2, r2, v2⟩ := partA_spec h2 hy hyl w
        have := ih (i + 1) y h4
        simp only [List.range'_succ, List.forIn_cons, Sem.run_bind, r1, r2, Result.andThen_ok, heq _ _ _ _ _ w h3 v1 v2]
        cases x
        · simp
        · simp only [Bool.not_true, Bool.false_eq_true, if_false, Sem.run_pure, Result.andThen_ok, Bool.true_and]
          exact this
      · cases h
    · cases h

theorem eqA_spec {P : Program} {ρ : RO} {μ : Option Lay} : ∀ (d : Nat) (t : TypeId) (x y : AV) (b : Bool) (cx cy : Value) (D : Nat) (w : World), eqA P d t x y = some b → d ≤ D → Rv ρ μ x cx → Rv ρ μ y cy →
    (Op.equalIn D t cx cy).run P w = .ok b w := by
  intro d
  induction d with
  | zero => intro t x y b cx cy D w h; simp [eqA] at h
  | succ d ih =>
    intro t x y b cx cy D w h hD hx hy
    obtain ⟨D, rfl⟩ : ∃ D', D = D' + 1 := ⟨D - 1, by omega⟩
    simp only [eqA] at h
    split at h
    · rename_i hu
      split at h
      · rename_i p q hp hq
        cases h
        rw [isB_spec hp hx, isB_spec hq hy]
        simp [Op.equalIn, run_underlying hu]
      · cases h
    · rename_i k hu
      split at h
      · rename_i k1 p l1 k2 q l2 hp hq
        split at h
        · rename_i hk
          cases h; subst hk
          rw [isI_spec hp hx, isI_spec hq hy]
          simp [Op.equalIn, run_underlying hu]
        · cases h
      · cases h
    · rename_i hu
      split at h
      · cases h; cases hx; cases hy
        simp [Op.equalIn, run_underlying hu, beq_toListBytes]
      · cases h
    · rename_i el hu
      split at h <;> first | (cases h; cases hx; cases hy; simp [Op.equalIn, run_underlying hu]; done) | cases h
    · rename_i ms hu
      split at h <;> first | (cases h; cases hx; cases hy; simp [Op.equalIn, run_underlying hu]; done) | cases h
    · rename_i hu
      split at h <;> first | (cases h; cases hx; cases hy; simp [Op.equalIn, run_underlying hu]; done) | cases h
    · rename_i el hu
      split at h
      · cases h; cases hx with
        | nilslc => cases hy with
          | nilslc => simp [Op.equalIn, run_underlying hu]
          | eslc => simp_all
          | slc => simp_all
        | eslc => simp_all
        | slc => simp_all
      · cases h; cases hx with
        | nilslc => cases hy with
          | slc => simp [Op.equalIn, run_underlying hu]
        | eslc => simp_all
        | slc => simp_all
      · cases h; cases hy with
        | nilslc => cases hx with
          | slc => simp [Op.equalIn, run_underlying hu]
        | eslc => simp_all
        | slc => simp_all
      · cases h
    · rename_i fs hu
      split at h
      · rename_i xs ys
        split at h
        · cases h
        · rename_i hs
          cases hx with
          | agg _ _ vx hlx hhx => cases hy with
            | agg _ _ vy hly hhy =>
              have hf : P.fieldsOf t = fs := by simp [Program.fieldsOf, hu]
              rw [run_equalIn_struct w D t vx vy (by rw [hf]; exact hu) (by simpa using hs), hf]
              exact eqFieldsA_spec (eq := eqA P d) (fun t x y b cx cy w h hx hy => ih t x y b cx cy D w h (by omega) hx hy) hhx (by omega) hhy (by omega) w fs.toList b h
      · cases h
    · rename_i n e hu
      split at h
      · rename_i xs ys
        split at h
        · cases h
        rename_i he
        obtain ⟨de, he⟩ : ∃ d, P.underlying e = some d := by cases hh : P.underlying e <;> simp_all
        cases hx with
        | agg _ _ vx hlx hhx => cases hy with
          | agg _ _ vy hly hhy =>
            have hloop := eqElemsA_spec (D := D) (e := e) (eq := eqA P d e) (fun x y b cx cy w h hx hy => ih e x y b cx cy D w h (by omega) hx hy) hhx (by omega) hhy (by omega) w n 0 b h
            simp only [Op.equalIn, Sem.run_bind, run_underlying hu, Result.andThen_ok, run_sizeOf' he]
            rw [Std.Legacy.Range.forIn_eq_forIn_range']
            simp only [Std.Legacy.Range.size, Nat.sub_zero, Nat.add_sub_cancel, Nat.div_one, Sem.run_bind]
            rw [hloop]
            cases b <;> simp
      · cases h
    · cases h

/-- The values of operands. -/
def RvO (ρ : RO) (μ : Option Lay) (e : Operand → AV) (c : Operand → Value) : Prop := ∀ x, Rv ρ μ (e x) (c x)

theorem binI_spec {P : Program} {op : BinOp} {k : IntKind} {a b : Int} {l : Bool} {v : AV} (h : binI op k a b l = some v) (ρ : RO) (μ : Option Lay) (t : TypeId) (w : World) :
    ∃ cv, (binOp op t (.int k a) (.int k b)).run P w = .ok cv w ∧ Rv ρ μ v cv := by
  cases op <;> simp only [binI, Option.some.injEq, reduceCtorEq] at h <;> subst h <;>
    first
      | exact ⟨_, (by simp only [binOp, ne_eq, not_true_eq_false, if_false]; rfl), Rv.mkI ..⟩
      | exact ⟨_, (by simp only [binOp, ne_eq, not_true_eq_false, if_false]; rfl), Rv.mkB ..⟩

theorem eqGuard_ok {P : Program} {op : BinOp} {t : TypeId} {x y : Operand} {a b : Value} (w : World) (h1 : ¬ (a = .nilIface ∧ b = .nilIface)) (h2 : (∃ p q, a = .agg p ∧ b = .agg q) → P.eqGuardType P.depth t = false) :
    (eqGuard op t x y a b).run P w = .ok () w := by
  have key : ∀ s : Sem Unit, (∀ w, (match a, b with
      | .nilIface, .nilIface => s
      | .agg _, .agg _ => (do
        if !(← program).eqGuardType (← program).depth t then return
        if ← Op.eqGuardIn Op.maxDepth t a b then unsupported (.noEntry "binop/eql: two nil values of an interface type with methods, in a part of a struct or an array") : Sem Unit)
      | _, _ => (pure () : Sem Unit)).run P w = .ok () w) := by
    intro s w
    split
    · simp at h1
    · rename_i p q
      have := h2 ⟨p, q, rfl, rfl⟩
      simp [this]
    · rfl
  unfold eqGuard
  cases op <;> first | rfl | (rw [if_neg (by simp)]; exact key _ w)
end Go.Proofs.YtblebiafhhhflaaGreat

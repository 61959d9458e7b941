/- Loads, stores, indexes, slices, divisions. -/
import Derived.Test.YtblebiafhhhflaaGreatR5
namespace Go.Proofs.YtblebiafhhhflaaGreat
open Go.RowKit

theorem foldr_cells {P : Program} {d : Nat} (ih : ∀ (t : TypeId) (K : List AV → Prop), exCells P d t K → ∃ cs, K cs) : ∀ (fs : List Field) (K : List AV → Prop) (acc : List AV),
    fs.foldr (fun f (k : List AV → Prop) acc => exCells P d f.type fun cs => k (acc ++ cs)) K acc → ∃ cs, K cs := by
  intro fs
  induction fs with
  | nil => intro K acc h; exact ⟨acc, h⟩
  | cons f r ih2 =>
    intro K acc h
    obtain ⟨cs, h⟩ := ih _ _ h
    exact ih2 K _ h
theorem exCells_elim {P : Program} : ∀ (d : Nat) (t : TypeId) (K : List AV → Prop), exCells P d t K → ∃ cs, K cs := by
  intro d
  induction d with
  | zero => intro t K h; exact h.elim
  | succ d ih =>
    intro t K h
    simp only [exCells] at h
    split at h
    · obtain ⟨b, h⟩ := h; exact ⟨_, h⟩
    · obtain ⟨b, h⟩ := h; exact ⟨_, h⟩
    · obtain ⟨b, h⟩ := h; exact ⟨_, h⟩
    · obtain ⟨b, h⟩ := h; exact ⟨_, h⟩
    · exact foldr_cells ih _ _ _ h
    · rename_i n e _
      have key : ∀ (n : Nat) (acc : List AV), Nat.rec (motive := fun _ => List AV → Prop) K (fun _ k acc => exCells P d e fun cs => k (acc ++ cs)) n acc → ∃ cs, K cs := by
        intro n
        induction n with
        | zero => intro acc h; exact ⟨acc, h⟩
        | succ n ih2 =>
          intro acc h
          obtain ⟨cs, h⟩ := ih _ _ h
          exact ih2 _ h
      exact key n [] h
    · obtain ⟨b, h⟩ := h; exact ⟨_, h⟩
theorem exT_elim {P : Program} {t : TypeId} {K : AV → Prop} (h : exT P t K) : ∃ v, K v := by
  obtain ⟨cs, h⟩ := exCells_elim _ _ _ h
  exact ⟨_, h⟩
theorem exRes_elim {P : Program} : ∀ {ts : List TypeId} {K : AV → Prop}, exRes P ts K → ∃ v, K v := by
  intro ts K h
  match ts with
  | [] => exact ⟨_, h⟩
  | [t] => exact exT_elim h
  | t :: u :: r =>
    have key : ∀ (l : List TypeId) (K : List AV → Prop) (acc : List AV), l.foldr (fun t (k : List AV → Prop) acc => exT P t fun v => k (acc ++ [v])) K acc → ∃ vs, K vs := by
      intro l
      induction l with
      | nil => intro K acc h; exact ⟨acc, h⟩
      | cons f r ih2 =>
        intro K acc h
        have h : exT P f (fun v => r.foldr (fun t (k : List AV → Prop) acc => exT P t fun v => k (acc ++ [v])) K (acc ++ [v])) := h
        obtain ⟨v, h⟩ := exT_elim h
        exact ih2 K _ h
    obtain ⟨vs, h⟩ := key _ (fun vs => K (.tup vs)) [] h
    exact ⟨_, h⟩

mutual
theorem exV_elim (x : AV) {K : AV → Prop} (h : exV x K) : ∃ v, K v := by
  cases x with
  | int k n => obtain ⟨n, h⟩ := h; exact ⟨_, h⟩
  | bool b => obtain ⟨n, h⟩ := h; exact ⟨_, h⟩
  | str s => obtain ⟨n, h⟩ := h; exact ⟨_, h⟩
  | slc m es => obtain ⟨n, h⟩ := h; exact ⟨_, h⟩
  | undef => obtain ⟨n, h⟩ := h; exact ⟨_, h⟩
  | iface t v => obtain ⟨v, h⟩ := exV_elim v h; exact ⟨_, h⟩
  | agg cs => obtain ⟨v, h⟩ := exL_elim cs h; exact ⟨_, h⟩
  | tup cs => obtain ⟨v, h⟩ := exL_elim cs h; exact ⟨_, h⟩
  | fn f a c =>
    obtain ⟨a, h⟩ := exL_elim a h
    obtain ⟨c, h⟩ := exL_elim c h
    exact ⟨_, h⟩
  | eptr cs off => obtain ⟨v, h⟩ := exL_elim cs h; exact ⟨_, h⟩
  | _ => exact ⟨_, h⟩
theorem exL_elim (l : List AV) {K : List AV → Prop} (h : exL l K) : ∃ v, K v := by
  cases l with
  | nil => exact ⟨_, h⟩
  | cons x r =>
    obtain ⟨v, h⟩ := exV_elim x h
    obtain ⟨l, h⟩ := exL_elim r h
    exact ⟨_, h⟩
end
theorem exO_elim {K : AV → Prop} : ∀ {l : List AV}, exO l K → ∃ v, K v
  | [], h => h.elim
  | [x], h => exV_elim x h
  | x :: y :: s, h => by
    rcases h with h | h
    · exact exV_elim x h
    · exact exO_elim (l := y :: s) h
theorem exE_elim {P : Program} {w : Ways} {t : TypeId} {K : AV → Prop} (h : exE P w t K) : ∃ v, K v := by
  unfold exE at h
  split at h
  · exact exO_elim h
  · exact exT_elim h
theorem exAlt_elim {P : Program} {w : Ways} {f : FuncId} {ts : List TypeId} {K : AV → Prop} (h : exAlt P w f ts K) : ∃ v, K v := by
  unfold exAlt at h
  split at h
  · rename_i l hl
    clear hl
    induction l with
    | nil => exact h.elim
    | cons x r ih =>
      cases r with
      | nil => exact exV_elim x h
      | cons y s =>
        rcases h with h | h
        · exact exV_elim x h
        · exact ih h
  · exact exRes_elim h
theorem idxA_elim {n : Nat} {i : AV} {F : Nat → Prop} (h : idxA n i F) : ∃ (k : IntKind) (j : Nat) (l : Bool), i.isI = some (k, (j : Int), l) ∧ j < n ∧ F j := by
  unfold idxA at h
  split at h
  · rename_i k j hj
    split at h
    · rename_i hb
      obtain ⟨m, rfl⟩ : ∃ m : Nat, j = m := ⟨j.toNat, by omega⟩
      exact ⟨k, m, true, hj, by omega, h⟩
    · exact h.elim
  · rename_i k j hj
    obtain ⟨⟨h1, h2⟩, h3⟩ := h
    obtain ⟨m, rfl⟩ : ∃ m : Nat, j = m := ⟨j.toNat, by omega⟩
    refine ⟨k, m, false, hj, by omega, ?_⟩
    have key : ∀ n, m < n → selN (m : Int) F n → F m := by
      intro n
      induction n with
      | zero => intro h; omega
      | succ n ih =>
        intro hm h
        by_cases he : m = n
        · subst he; exact h.1 rfl
        · exact ih (by omega) h.2
    exact key n (by omega) h3
  · exact h.elim

theorem add_addr (b o n : Nat) : (Addr.add ⟨b, o, none⟩ n) = ⟨b, o + n, none⟩ := by unfold Addr.add; split <;> simp_all
theorem cell_of_ro {ρ : RO} {w : World} (hro : ∀ k o, ρ k = some o → w.heap[k]? = some o) {b off : Nat} {v : Value} (h : ρ.cell b off = some v) : w.cell? ⟨b, off, none⟩ = some v := by
  unfold RO.cell at h
  cases hb : ρ b with
  | none => simp [hb] at h
  | some o =>
    rw [hb] at h
    cases o <;> simp only [reduceCtorEq] at h
    unfold World.cell?
    rw [hro _ _ hb]
    simpa using h
theorem cell_of_blk {w : World} {b off : Nat} {c : Array Value} {e : TypeId} {f : Nat × Nat} (h : w.heap[b]? = some (.cells c e f)) : w.cell? ⟨b, off, none⟩ = c[off]? := by
  unfold World.cell?
  rw [h]; simp

theorem loadVar_spec {P : Program} {t : TypeId} {cs : List AV} {off : Nat} {v : AV} (h : partA P t cs off = some v) {ρ : RO} {μ : Option Lay} {w : World} {B o : Nat} {f : Nat → Value}
    (hc : ∀ j, j < cs.length → w.cell? ⟨B, o + j, none⟩ = some (f j)) (hr : ∀ j, Rv ρ μ (cs.getD j .undef) (f j)) :
    ∃ cv, (loadVar t ⟨B, o + off, none⟩).run P w = .ok cv w ∧ Rv ρ μ v cv := by
  unfold partA at h
  have agg : ∀ d, P.underlying t = some d → isAggT P t = true → (if off + P.cellsOf t ≤ cs.length then some (AV.agg ((cs.drop off).take (P.cellsOf t))) else none) = some v →
      ∃ cv, (loadVar t ⟨B, o + off, none⟩).run P w = .ok cv w ∧ Rv ρ μ v cv := by
    intro d hd ha h
    split at h
    · rename_i hb
      cases h
      refine ⟨.agg ((List.range (P.cellsOf t)).map fun j => f (off + j)).toArray, ?_, .agg _ _ _ (by simp; omega) (fun j => ?_)⟩
      · simp only [loadVar, Sem.run_bind, run_isAgg' hd, ha, run_sizeOf' hd, Result.andThen_ok, if_true]
        rw [run_loadCells w _ _ (fun j => f (off + j)) (fun j hj => by rw [add_addr, Nat.add_assoc]; exact hc _ (by omega))]
        rfl
      · rcases Nat.lt_or_ge j (P.cellsOf t) with hj | hj
        · have h1 : ((cs.drop off).take (P.cellsOf t)).getD j .undef = cs.getD (off + j) .undef := by simp [List.getD, List.getElem?_take, hj]
          have h2 : (((List.range (P.cellsOf t)).map fun j => f (off + j)).toArray).getD j Go.undef = f (off + j) := by simp [Array.getD, hj]
          rw [h1, h2]; exact hr _
        · rw [getD_le (by simp; omega)]; exact .undef _ _
    · cases h
  split at h
  · rename_i fs hu; exact agg _ hu (by simp [isAggT, hu]) h
  · rename_i n e hu; exact agg _ hu (by simp [isAggT, hu]) h
  · rename_i d hn1 hn2 hu
    have ha : isAggT P t = false := by
      unfold isAggT
      rw [hu]
      cases d <;> simp_all
    obtain ⟨hlt, hv⟩ := List.getElem?_eq_some_iff.1 h
    refine ⟨f off, ?_, ?_⟩
    · simp only [loadVar, Sem.run_bind, run_isAgg' hu, ha, Result.andThen_ok, Bool.false_eq_true, if_false, run_load, hc off hlt]
    · have := hr off
      simp only [List.getD, h, Option.getD_some] at this
      exact this
  · cases h

section
variable {ds : List Deferred} {n : Nat} {μ0 : Lay} {ρ0 : RO} {w0 : World} {ρ : RO} {μ : Lay} {σ : St} {a : Act} {w : World}

/-- The cells of a box, as the world has them. -/
theorem Sat.cells (hs : Sat ds n μ0 ρ0 w0 ρ μ σ a w) {b : Nat} {x : Bx} (hb : σ.bx.getD b none = some x) (hm : x.mp = none) :
    ∃ f : Nat → Value, (∀ j, j < x.cs.length → w.cell? ⟨(μ b).1, 0 + j, none⟩ = some (f j)) ∧ ∀ j, Rv ρ (lev μ x) (x.cs.getD j .undef) (f j) := by
  obtain ⟨h1, h2⟩ := hs.box b x hb
  rcases h2 with h0 | ⟨o, h3, h5⟩
  · have : x.cs = [] := List.eq_nil_of_length_eq_zero (by omega)
    rw [this]
    exact ⟨fun _ => Go.undef, by simp, fun j => .undef _ _⟩
  · obtain ⟨c, e, rfl, h4, h5⟩ := h5.get (by rw [mapL_lev]; exact hm)
    refine ⟨fun j => c.getD j Go.undef, fun j hj => ?_, h5⟩
    rw [cell_of_blk h3]
    have : j < c.size := by omega
    simp [Array.getD, this]

theorem loadA_spec {P : Program} {t : TypeId} {x : AV} {cx : Value} {K : AV → Prop} (hs : Sat ds n μ0 ρ0 w0 ρ μ σ a w) (hx : Rv ρ (some μ) x cx) (h : loadA P t σ x K) :
    ∃ v cv, (Instr.loadAt t cx).run P w = .ok cv w ∧ Rv ρ (some μ) v cv ∧ K v := by
  unfold loadA at h
  split at h
  · rename_i cs off
    cases hx with
    | eptr _ _ B o _ c hc hh =>
      split at h
      · rename_i v hv
        obtain ⟨cv, h1, h2⟩ := loadVar_spec hv (w := w) (B := B) (o := o) (f := c) (fun j hj => cell_of_ro hs.ro (hc j hj)) hh
        exact ⟨v, cv, by simpa [Instr.loadAt, Instr.sureAddr] using h1, h2.any _, h⟩
      · exact h.elim
  · rename_i b off
    cases hx with
    | ref m =>
      split at h
      · rename_i bx hb
        split at h
        · exact h.elim
        rename_i hm
        obtain ⟨f, h1, h2'⟩ := hs.cells hb (by simpa using hm)
        have h2 : ∀ j, Rv ρ (some μ) (bx.cs.getD j .undef) (f j) := fun j => (h2' j).lev_some
        split at h
        · obtain ⟨v, hv, hK⟩ := exT_elim h
          obtain ⟨u, hu, rfl⟩ := Option.map_eq_some_iff.1 hv
          obtain ⟨cv, h3, h4⟩ := loadVar_spec hu h1 h2
          exact ⟨_, cv, by simpa [Instr.loadAt, Instr.sureAddr] using h3, h4.norm, hK⟩
        · split at h
          · rename_i v hv
            obtain ⟨cv, h3, h4⟩ := loadVar_spec hv h1 h2
            exact ⟨v, cv, by simpa [Instr.loadAt, Instr.sureAddr] using h3, h4, h⟩
          · exact h.elim
      · exact h.elim
  · exact h.elim

theorem indexAddrA_spec {P : Program} {ws : Ways} {t : TypeId} {x i : AV} {cx ci : Value} {K : AV → Prop} (hx : Rv ρ (some μ) x cx) (hi : Rv ρ (some μ) i ci) (h : indexAddrA P ws t x i K) (w : World) :
    ∃ v cv, (Instr.indexAt t cx ci).run P w = .ok cv w ∧ Rv ρ (some μ) v cv ∧ K v := by
  unfold indexAddrA at h
  split at h
  · rename_i n e hu
    split at h
    · exact h.elim
    rename_i hne
    obtain ⟨de, he⟩ : ∃ d, P.underlying e = some d := by cases hh : P.underlying e <;> simp_all
    have hrun : ∀ (k : IntKind) (j : Nat) (B o : Nat), j < n → (Instr.indexAt t (.pointer (some ⟨B, o, none⟩)) (.int k j)).run P w = .ok (.pointer (some ⟨B, o + j * P.cellsOf e, none⟩)) w := by
      intro k j B o hj
      have h1 : (0 ≤ (j : Int) ∧ (j : Int) < (n : Int)) := ⟨by omega, by omega⟩
      simp only [Instr.indexAt, asIntOf, Sem.run_bind, Sem.run_pure, Result.andThen_ok, run_underlying hu, Instr.sureAddr]
      rw [if_pos h1]
      simp only [Sem.run_bind, run_sizeOf' he, Result.andThen_ok, Sem.run_pure]
      rw [add_addr]; rfl
    split at h
    · rename_i b off
      obtain ⟨k, j, l, hI, hj, hK⟩ := idxA_elim h
      rw [isI_spec hI hi]
      cases hx with
      | ref => exact ⟨_, _, hrun k j _ _ hj, .ref μ b _, hK⟩
    · rename_i cs off
      obtain ⟨k, j, l, hI, hj, hK⟩ := idxA_elim h
      rw [isI_spec hI hi]
      cases hx with
      | eptr _ _ B o _ c hc hh =>
        refine ⟨_, _, hrun k j _ _ hj, ?_, hK⟩
        rw [Nat.add_assoc]; exact .eptr _ cs B o _ c hc hh
    · exact h.elim
  · rename_i e hu
    split at h
    · exact h.elim
    rename_i hne
    obtain ⟨de, hde⟩ : ∃ d, P.underlying e = some d := by cases hh : P.underlying e <;> simp_all
    split at h
    · rename_i m es k j l hI
      obtain ⟨v, ⟨h0, hsz, hv⟩, hK⟩ := exE_elim h
      rw [isI_spec hI hi]
      obtain ⟨hlt, hve⟩ := List.getElem?_eq_some_iff.1 hv
      cases hx with
      | nilslc => simp at hlt
      | eslc => simp at hlt
      | slc _ _ _ B o cap kk c hm hcap h2 hk hc hh =>
        have hg : es.getD j.toNat .undef = v := by simp [List.getD, hv]
        have hkk : kk = P.cellsOf e := by rw [← hsz, ← hg]; exact (hk _ hlt).symm
        subst hkk
        refine ⟨_, .pointer (some ⟨B, (o + j.toNat * P.cellsOf e) + 0, none⟩), ?_, .eptr _ _ B _ 0 (c j.toNat) (fun i hi => hc _ hlt _ (by omega)) (fun i => by rw [← hg]; exact hh _ _), hK⟩
        simp only [Instr.indexAt, asIntOf, Sem.run_bind, Sem.run_pure, Result.andThen_ok, run_underlying hu]
        rw [if_pos ⟨h0, by omega⟩]
        simp only [Sem.run_bind, run_sizeOf' hde, Result.andThen_ok, Sem.run_pure]
        rw [add_addr]; rfl
    · rename_i b off len esz ag k j l hI
      obtain ⟨⟨h0, hlt, he⟩, hK⟩ := h
      rw [isI_spec hI hi]
      cases hx with
      | aslc _ _ _ _ _ _ cap hcap hr =>
        refine ⟨_, .pointer (some ⟨(μ b).1, off + j.toNat * esz, none⟩), ?_, .ref μ b _, hK⟩
        simp only [Instr.indexAt, asIntOf, Sem.run_bind, Sem.run_pure, Result.andThen_ok, run_underlying hu]
        rw [if_pos ⟨h0, hlt⟩]
        simp only [Sem.run_bind, run_sizeOf' hde, Result.andThen_ok, Sem.run_pure]
        rw [add_addr, he]
      | aslc0 => omega
    · exact h.elim
  · exact h.elim

theorem indexA_spec {P : Program} {t : TypeId} {x i : AV} {cx ci : Value} {K : AV → Prop} (hx : Rv ρ (some μ) x cx) (hi : Rv ρ (some μ) i ci) (h : indexA P t x i K) (w : World) :
    ∃ v cv, (Instr.index t cx ci).run P w = .ok cv w ∧ Rv ρ (some μ) v cv ∧ K v := by
  unfold indexA at h
  split at h
  · rename_i n e hu
    split at h
    · rename_i cs
      obtain ⟨k, j, l, hI, hj, hK⟩ := idxA_elim h
      rw [isI_spec hI hi]
      split at hK
      · rename_i v hv
        cases hx with
        | agg _ _ vs hl hh =>
          obtain ⟨cv, h1, h2⟩ := partA_spec hv hh (by omega) w
          have he : ∃ d, P.underlying e = some d := by
            unfold partA at hv
            split at hv <;> first | exact ⟨_, ‹_›⟩ | cases hv
          obtain ⟨de, he⟩ := he
          refine ⟨v, cv, ?_, h2, hK⟩
          simp only [Instr.index, asIntOf, Sem.run_bind, Sem.run_pure, Result.andThen_ok, run_underlying hu]
          rw [if_pos ⟨by omega, by omega⟩]
          simp only [Sem.run_bind, run_sizeOf' he, Result.andThen_ok]
          exact h1
      · exact hK.elim
    · exact h.elim
  · rename_i hu
    split at h
    · rename_i s k j l hI
      obtain ⟨c, ⟨h0, hc⟩, hK⟩ := h
      rw [isI_spec hI hi]
      cases hx
      refine ⟨_, .int .u8 c.toNat, ?_, .int .., hK⟩
      simp only [Instr.index, asIntOf, Sem.run_bind, Sem.run_pure, Result.andThen_ok, run_underlying hu, h0, if_true, hc]
    · exact h.elim
  · exact h.elim

theorem divA_spec {P : Program} {op : BinOp} {t : TypeId} {x y : AV} {p q : Operand} {cx cy : Value} {K : AV → Prop} (hx : Rv ρ (some μ) x cx) (hy : Rv ρ (some μ) y cy) (h : divA op x y K) (w : World) :
    ∃ v cv, (do eqGuard op t p q cx cy; binOp op t cx cy : Sem Value).run P w = .ok cv w ∧ Rv ρ (some μ) v cv ∧ K v := by
  unfold divA at h
  split at h
  · rename_i k m l k' r l' hp hq
    rw [isI_spec hp hx, isI_spec hq hy]
    have main : ∀ v cv, (binOp op t (.int k m) (.int k' r)).run P w = .ok cv w → Rv ρ (some μ) v cv → K v →
        ∃ v cv, (do eqGuard op t p q (.int k m) (.int k' r); binOp op t (.int k m) (.int k' r) : Sem Value).run P w = .ok cv w ∧ Rv ρ (some μ) v cv ∧ K v :=
      fun v cv h1 h2 h3 => ⟨v, cv, by rw [Sem.run_bind, eqGuard_ok w (by simp) (by simp)]; exact h1, h2, h3⟩
    split at h
    · split at h
      · rename_i hk
        subst hk
        have hK : r ≠ 0 ∧ ∃ l, K (mkI k (k.wrap (m.tdiv r)) l) := by
          split at h
          · split at h
            · exact h.elim
            · exact ⟨‹_›, _, h⟩
          · exact ⟨h.1, _, h.2⟩
        obtain ⟨h0, l, hK⟩ := hK
        exact main _ _ (by simp [binOp, Op.intDiv, h0]) (Rv.mkI ..) hK
      · exact h.elim
    · split at h
      · rename_i hk
        subst hk
        have hK : r ≠ 0 ∧ ∃ l, K (mkI k (m.tmod r) l) := by
          split at h
          · split at h
            · exact h.elim
            · exact ⟨‹_›, _, h⟩
          · exact ⟨h.1, _, h.2⟩
        obtain ⟨h0, l, hK⟩ := hK
        exact main _ _ (by simp [binOp, Op.intDiv, h0]) (Rv.mkI ..) hK
      · exact h.elim
    · have hK : ¬ r < 0 ∧ ∃ l, K (mkI k (k.wrap (m * 2 ^ (min r.toNat k.bits))) l) := by
        split at h
        · split at h
          · exact h.elim
          · exact ⟨‹_›, _, h⟩
        · exact ⟨by have := h.1; omega, _, h.2⟩
      obtain ⟨h0, l, hK⟩ := hK
      exact main _ _ (by simp [binOp, Op.shift, h0]) (Rv.mkI ..) hK
    · have hK : ¬ r < 0 ∧ ∃ l, K (mkI k (m.fdiv (2 ^ (min r.toNat k.bits))) l) := by
        split at h
        · split at h
          · exact h.elim
          · exact ⟨‹_›, _, h⟩
        · exact ⟨by have := h.1; omega, _, h.2⟩
      obtain ⟨h0, l, hK⟩ := hK
      exact main _ _ (by simp [binOp, Op.shift, h0]) (Rv.mkI ..) hK
    · exact h.elim
  · exact h.elim
end
end Go.Proofs.YtblebiafhhhflaaGreat

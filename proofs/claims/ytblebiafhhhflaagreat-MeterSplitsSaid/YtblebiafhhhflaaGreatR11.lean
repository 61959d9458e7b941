/- Literals of slices; slices of boxes as slices of memory that nobody writes. -/
import Derived.Test.YtblebiafhhhflaaGreatR10
namespace Go.Proofs.YtblebiafhhhflaaGreat
open Go.RowKit

theorem zeros_spec {ρ : RO} {lv : Option Lay} {zc : List AV} {c : Array Value} (hl : zc.length = c.size) (hr : RvC ρ lv zc c) (hpos : 0 < c.size) (m : Nat) :
    RvC ρ lv ((List.replicate m zc).flatten) ((Array.range (m * c.size)).map (c[· % c.size]!)) := by
  intro j
  obtain ⟨f1, f2⟩ := flatten_replicate (z := zc) m
  rw [hl] at f1 f2
  rcases Nat.lt_or_ge j (m * c.size) with hj | hj
  · have hd : j / c.size < m := Nat.div_lt_of_lt_mul (by rwa [Nat.mul_comm])
    have hm : j % c.size < c.size := Nat.mod_lt _ hpos
    have e1 := f2 (j / c.size) hd (j % c.size) hm
    rw [Nat.mul_comm, Nat.div_add_mod] at e1
    rw [e1]
    have e2 : ((Array.range (m * c.size)).map (c[· % c.size]!)).getD j Go.undef = c.getD (j % c.size) Go.undef := by
      rw [Array.getD, dif_pos (by simpa using hj)]
      simp only [Array.getElem_map, Array.getElem_range, Array.getInternal_eq_getElem]
      rw [getElem!_pos c (j % c.size) hm, Array.getD, dif_pos hm]
      simp only [Array.getInternal_eq_getElem]
    rw [e2]; exact hr _
  · rw [getD_le (by rw [f1]; exact hj)]; exact .undef ..

theorem chunkA_spec {k : Nat} : ∀ (n : Nat) (cs : List AV), (chunkA k n cs).length = n ∧ ∀ i, i < n → (chunkA k n cs).getD i .undef = .agg ((cs.drop (i * k)).take k) := by
  intro n
  induction n with
  | zero => intro cs; exact ⟨rfl, fun i hi => by omega⟩
  | succ n ih =>
    intro cs
    obtain ⟨h1, h2⟩ := ih (cs.drop k)
    refine ⟨by simp [chunkA, h1], fun i hi => ?_⟩
    cases i with
    | zero => simp [chunkA]
    | succ i =>
      have := h2 i (by omega)
      simp only [chunkA, List.getD, List.getElem?_cons_succ] at this ⊢
      rw [this, List.drop_drop]
      congr 3
      rw [Nat.add_mul]; omega

theorem one_cells {v : AV} (h : v.one = true) : v.cells = [v] := by cases v <;> simp_all [AV.one, AV.cells]

theorem Rv.chunks {ρ : RO} {μ : Option Lay} {B o : Nat} {cs : List AV} {c : Nat → Value} {esz len cap m : Nat} {ag : Bool} (hl : len * esz ≤ cs.length) (hag : ag = false → esz = 1 ∧ ones cs = true)
    (hc : ∀ j, j < len * esz → ρ.cell B (o + j) = some (c j)) (hr : ∀ j, Rv ρ none (cs.getD j .undef) (c j)) (hcap : len ≤ cap) (hm : m ≠ 0) (h2 : m = 2 → cap = len) :
    Rv ρ μ (.slc m (chunks esz ag len cs)) (.slice (some ⟨B, o, none⟩) len cap) := by
  have hin : ∀ i, i < len → ∀ j, j < esz → i * esz + j < len * esz := by
    intro i hi j hj
    have : (i + 1) * esz ≤ len * esz := Nat.mul_le_mul_right _ (by omega)
    rw [Nat.add_mul] at this
    omega
  cases ag with
  | true =>
    obtain ⟨h3, h4⟩ := chunkA_spec (k := esz) len cs
    have h3' : (Go.Proofs.YtblebiafhhhflaaGreat.chunks esz true len cs).length = len := h3
    have hel : ∀ i, i < len → (Go.Proofs.YtblebiafhhhflaaGreat.chunks esz true len cs).getD i .undef = .agg ((cs.drop (i * esz)).take esz) := h4
    have := Rv.slc (ρ := ρ) μ m (Go.Proofs.YtblebiafhhhflaaGreat.chunks esz true len cs) B o cap esz (fun i j => c (i * esz + j)) hm (by omega) (by rw [h3']; exact h2)
      (fun i hi => by
        rw [hel i (by omega)]
        have := hin i (by omega)
        simp only [AV.cells, List.length_take, List.length_drop]
        rcases Nat.eq_zero_or_pos esz with h | h
        · omega
        · have := this (esz - 1) (by omega); omega)
      (fun i hi j hj => by rw [Nat.add_assoc]; exact hc _ (hin i (by omega) j hj))
      (fun i j => by
        rcases Nat.lt_or_ge i len with hi | hi
        · rw [hel i hi]
          simp only [AV.cells]
          rcases Nat.lt_or_ge j esz with hj | hj
          · have : ((cs.drop (i * esz)).take esz).getD j .undef = cs.getD (i * esz + j) .undef := by simp [List.getD, List.getElem?_take, hj]
            rw [this]; exact hr _
          · rw [getD_le (by simp; omega)]; exact .undef ..
        · rw [show (Go.Proofs.YtblebiafhhhflaaGreat.chunks esz true len cs).getD i .undef = .undef from getD_le (by omega)]
          cases j <;> exact .undef ..)
    rw [h3'] at this
    exact this
  | false =>
    obtain ⟨rfl, hone⟩ := hag rfl
    have h3' : (Go.Proofs.YtblebiafhhhflaaGreat.chunks 1 false len cs).length = len := by simp [Go.Proofs.YtblebiafhhhflaaGreat.chunks]; omega
    have hel : ∀ i, i < len → (Go.Proofs.YtblebiafhhhflaaGreat.chunks 1 false len cs).getD i .undef = cs.getD i .undef := by
      intro i hi
      simp [Go.Proofs.YtblebiafhhhflaaGreat.chunks, List.getD, List.getElem?_take, hi]
    have hcell : ∀ i, i < len → (cs.getD i .undef).cells = [cs.getD i .undef] := by
      intro i hi
      apply one_cells
      have : i < cs.length := by omega
      simp only [List.getD, List.getElem?_eq_getElem this, Option.getD_some]
      exact List.all_eq_true.1 hone _ (List.getElem_mem this)
    have := Rv.slc (ρ := ρ) μ m (Go.Proofs.YtblebiafhhhflaaGreat.chunks 1 false len cs) B o cap 1 (fun i j => c (i * 1 + j)) hm (by omega) (by rw [h3']; exact h2)
      (fun i hi => by rw [hel i (by omega), hcell i (by omega)]; rfl)
      (fun i hi j hj => by rw [Nat.add_assoc]; exact hc _ (hin i (by omega) j hj))
      (fun i j => by
        rcases Nat.lt_or_ge i len with hi | hi
        · rw [hel i hi, hcell i hi]
          cases j with
          | zero => simpa using hr i
          | succ j => exact .undef ..
        · rw [show (Go.Proofs.YtblebiafhhhflaaGreat.chunks 1 false len cs).getD i .undef = .undef from getD_le (by omega)]
          cases j <;> exact .undef ..)
    rw [h3'] at this
    exact this

theorem ones_normL {l : List AV} (h : ones l = true) : ones (AV.normL l) = true := by
  induction l with
  | nil => rfl
  | cons x r ih =>
    simp only [ones, AV.normL, List.all_cons, Bool.and_eq_true] at h ⊢
    refine ⟨?_, ih h.2⟩
    cases x <;> simp_all [AV.one, AV.norm]

section
variable {ds : List Deferred} {n : Nat} {μ0 : Lay} {ρ0 : RO} {w0 : World} {ρ : RO} {μ : Lay} {σ : St} {a : Act} {w : World}

theorem buildSlice_run {P : Program} {t e : TypeId} {len : Nat} {ps : Array (Nat × Operand)} {z : AV} {out : List AV} (hs : Sat ds n μ0 ρ0 w0 ρ μ σ a w) (hu : P.underlying t = some (.slice e)) (hz : zeroA P e = some z)
    (h1 : len * P.cellsOf e ≤ 2 ^ 20) (h2 : 0 < P.cellsOf e) (h3 : z.cells.length = P.cellsOf e) (h4 : isAggT P e = false → P.cellsOf e = 1) (h5 : (P.underlying e).isSome = true)
    (hf : fillA (fun i => some (i * P.cellsOf e, P.cellsOf e)) ((List.replicate len z.cells).flatten) (ps.toList.map fun p => (p.1, ev σ p.2)) = some out) (ht : AV.treeL out = true) (hone : ones out = true) :
    ∃ c' : Array Value, (Instr.buildSlice t len (ps.map fun (i, x) => (i, a.eval x))).run P w = .ok (.slice (some ⟨w.heap.size, 0, none⟩) len len) (w.alloc (.cells c' e)) ∧ c'.size = len * P.cellsOf e ∧
      out.length = len * P.cellsOf e ∧ ∀ j, Rv ρ none ((AV.normL out).getD j .undef) (c'.getD j Go.undef) := by
  obtain ⟨de, hde⟩ : ∃ d, P.underlying e = some d := by cases hh : P.underlying e <;> simp_all
  obtain ⟨cz, hzr, hzs, rfl⟩ := zeroA_spec hz w
  obtain ⟨hzl, hzc⟩ := solid_spec hzs (Rv.ofV ρ (some μ) cz)
  have hcz : cz.cells.size = P.cellsOf e := by omega
  have hz0 := zeros_spec (ρ := ρ) (lv := some μ) hzl hzc (by omega) len
  have hfl := (flatten_replicate (z := (ofV cz).cells) len).1
  obtain ⟨hp1, hp2⟩ := parts_spec (fun x => hs.eval x) ps _ rfl
  obtain ⟨c', g1, g2, g3⟩ := fillA_spec _ _ _ out _ hp1 hp2 (by rw [hfl, h3]; simp [hcz]) hz0 hf
  have hsz : out.length = len * P.cellsOf e := by
    have key : ∀ (l : List (Nat × AV)) (x y : List AV), fillA (fun i => some (i * P.cellsOf e, P.cellsOf e)) x l = some y → y.length = x.length := by
      intro l
      induction l with
      | nil => intro x y h; cases h; rfl
      | cons p r ih =>
        intro x y h
        obtain ⟨i, v⟩ := p
        simp only [fillA] at h
        split at h
        · cases h
        · rename_i hc
          simp only [not_or, Bool.not_eq_false, ne_eq, Decidable.not_not, gt_iff_lt, Nat.not_lt] at hc
          rw [ih _ _ h, setCells_length (by omega)]
    rw [key _ _ _ hf, hfl, h3]
  refine ⟨c', ?_, by omega, hsz, fun j => by rw [normL_getD]; exact ((g3 j).of_tree (treeL_getD ht j)).norm⟩
  · simp only [Instr.buildSlice, Sem.run_bind, run_underlying hu, Result.andThen_ok, run_sizeOf' hde]
    rw [Sem.run_ite, if_neg (by
      have : (2 : Nat) ^ 20 ≤ 2 ^ 24 := by decide
      omega)]
    have hfill : ∀ zc : Array Value, (len * P.cellsOf e = 0 ∨ zc = cz.cells) → Instr.fill (fun i => some (i * P.cellsOf e, P.cellsOf e)) ((Array.range (len * P.cellsOf e)).map (zc[· % zc.size]!)) (ps.map fun (i, x) => (i, a.eval x)).toList = some c' := by
      intro zc hzz
      rw [← g1]
      congr 1
      rcases hzz with h0 | rfl
      · have : len = 0 := by rcases Nat.mul_eq_zero.1 h0 with h | h <;> omega
        subst this
        simp
      · rw [hcz]
    by_cases h0 : len * P.cellsOf e = 0
    · simp only [Sem.run_bind, h0, if_true, Sem.run_pure, Result.andThen_ok]
      have := hfill #[] (.inl h0)
      rw [h0] at this
      rw [this]
      simp only [newRow, Sem.run_bind, run_newObj, Result.andThen_ok, Sem.run_pure]
      rfl
    · simp only [Sem.run_bind, Sem.run_ite]
      rw [if_neg h0]
      simp only [Sem.run_bind, hzr, Result.andThen_ok, Sem.run_pure]
      rw [hfill _ (.inr rfl)]
      simp only [newRow, Sem.run_bind, run_newObj, Result.andThen_ok, Sem.run_pure]
      rfl
theorem buildSlice_spec {P : Program} {t e : TypeId} {len : Nat} {ps : Array (Nat × Operand)} {z : AV} {out : List AV} (hs : Sat ds n μ0 ρ0 w0 ρ μ σ a w) (hu : P.underlying t = some (.slice e)) (hz : zeroA P e = some z)
    (h1 : len * P.cellsOf e ≤ 2 ^ 20) (h2 : 0 < P.cellsOf e) (h3 : z.cells.length = P.cellsOf e) (h4 : isAggT P e = false → P.cellsOf e = 1) (h5 : (P.underlying e).isSome = true)
    (hf : fillA (fun i => some (i * P.cellsOf e, P.cellsOf e)) ((List.replicate len z.cells).flatten) (ps.toList.map fun p => (p.1, ev σ p.2)) = some out) (ht : AV.treeL out = true) (hone : ones out = true) :
    ∃ cv w' ρ', (Instr.buildSlice t len (ps.map fun (i, x) => (i, a.eval x))).run P w = .ok cv w' ∧ Sat ds n μ0 ρ0 w0 ρ' μ σ a w' ∧ Rv ρ' (some μ) (.slc 2 (chunks (P.cellsOf e) (isAggT P e) len (AV.normL out))) cv := by
  obtain ⟨c', hrun, hcs, hsz, g3⟩ := buildSlice_run hs hu hz h1 h2 h3 h4 h5 hf ht hone
  let ρ' : RO := fun k => if k = w.heap.size then some (.cells c' e (0, 0)) else ρ k
  have hρn : ρ w.heap.size = none := by
    cases hr : ρ w.heap.size with
    | none => rfl
    | some o =>
      have := hs.ro _ _ hr
      rw [Array.getElem?_eq_none (Nat.le_refl _)] at this
      cases this
  have hle : ρ.le ρ' := by
    intro k o hk
    show (if k = w.heap.size then _ else ρ k) = _
    rw [if_neg (by rintro rfl; rw [hρn] at hk; cases hk)]; exact hk
  refine ⟨.slice (some ⟨w.heap.size, 0, none⟩) len len, w.alloc (.cells c' e), ρ', hrun, ?_, ?_⟩
  · have hw := SameBut.alloc w (.cells c' e)
    refine hs.moreRO hle ?_ ?_ (fun k hk => hw.block k (by omega)) hw.size rfl rfl rfl
    · intro k o hk
      by_cases hkk : k = w.heap.size
      · subst hkk
        simp only [ρ', if_true, Option.some.injEq] at hk
        subst hk
        exact Array.getElem?_push_size
      · simp only [ρ', hkk, if_false] at hk
        rw [hw.block k hkk]; exact hs.ro k o hk
    · intro k o hk h0
      by_cases hkk : k = w.heap.size
      · omega
      · simp only [ρ', hkk, if_false] at hk
        rw [h0] at hk; cases hk
  · refine Rv.chunks (c := fun j => c'.getD j Go.undef) (by rw [normL_length, hsz]; exact Nat.le_refl _) (fun h => ⟨h4 h, ones_normL hone⟩) ?_ ?_ (Nat.le_refl _) (by simp) (fun _ => rfl)
    · intro j hj
      simp only [RO.cell, ρ', if_true, Nat.zero_add]
      have : j < c'.size := by omega
      simp [Array.getD, this]
    · intro j
      exact (g3 j).mono hle
/-- A literal as a slice of the call's own. -/
theorem buildSliceO_spec {P : Program} {t e : TypeId} {len d : Nat} {ps : Array (Nat × Operand)} {z : AV} {out : List AV} {K : St → Prop} (hs : Sat ds n μ0 ρ0 w0 ρ μ σ a w) (hu : P.underlying t = some (.slice e)) (hz : zeroA P e = some z)
    (h1 : len * P.cellsOf e ≤ 2 ^ 20) (h2 : 0 < P.cellsOf e) (h3 : z.cells.length = P.cellsOf e) (h4 : isAggT P e = false → P.cellsOf e = 1) (h5 : (P.underlying e).isSome = true)
    (hf : fillA (fun i => some (i * P.cellsOf e, P.cellsOf e)) ((List.replicate len z.cells).flatten) (ps.toList.map fun p => (p.1, ev σ p.2)) = some out) (ht : AV.treeL out = true) (hone : ones out = true)
    (h : mkBox n d ⟨e, true, AV.normL out⟩ (.aslc (n + d) 0 len (P.cellsOf e) (isAggT P e)) σ K) :
    ∃ cv w' μ' σ', (Instr.buildSlice t len (ps.map fun (i, x) => (i, a.eval x))).run P w = .ok cv w' ∧ Sat ds n μ0 ρ0 w0 ρ μ' σ' (a.put (some d) cv) w' ∧ K σ' := by
  obtain ⟨c', hrun, hcs, hsz, g3⟩ := buildSlice_run hs hu hz h1 h2 h3 h4 h5 hf ht hone
  obtain ⟨μ', σ', g1, g2⟩ := hs.alloc (e := e) (c := c') (cp := .slice (some ⟨w.heap.size, 0, none⟩) len len) h (by
      show (AV.normL out).length ≤ _
      rw [normL_length, hsz, hcs]; exact Nat.le_refl _) (fun j => g3 j)
    (fun μ' hm => by
      have := Rv.aslc (ρ := ρ) μ' (n + d) 0 len (P.cellsOf e) (isAggT P e) len (Nat.le_refl _) (by rw [hm]; simp only [Nat.zero_add]; omega)
      rw [hm] at this; exact this)
  exact ⟨_, _, μ', σ', hrun, g1, g2⟩
theorem convert_spec {P : Program} {s d : TypeId} {x v : AV} {cx : Value} (hs : Sat ds n μ0 ρ0 w0 ρ μ σ a w) (hx : Rv ρ (some μ) x cx) (h : bytesOf P s d x = some v) :
    ∃ cv w' ρ', (convert s d cx).run P w = .ok cv w' ∧ Sat ds n μ0 ρ0 w0 ρ' μ σ a w' ∧ Rv ρ' (some μ) v cv := by
  unfold bytesOf at h
  split at h
  case h_2 => cases h
  rename_i e b h1 h2
  split at h
  case h_2 => cases h
  rename_i h3
  cases h
  cases hx with
  | str _ _ =>
    let cap := grownCap w b.size 0 e
    have hcap : b.size ≤ cap := by
      show b.size ≤ b.size + _
      exact Nat.le_add_right _ _
    let c' := bytesRow b cap
    let o : Obj := .cells c' e (c'.size, c'.size + 1)
    let ρ' : RO := fun k => if k = w.heap.size then some o else ρ k
    have hρn : ρ w.heap.size = none := by
      cases hr : ρ w.heap.size with
      | none => rfl
      | some o =>
        have := hs.ro _ _ hr
        rw [Array.getElem?_eq_none (Nat.le_refl _)] at this
        cases this
    have hle : ρ.le ρ' := by
      intro k o hk
      show (if k = w.heap.size then _ else ρ k) = _
      rw [if_neg (by rintro rfl; rw [hρn] at hk; cases hk)]; exact hk
    have hsd := hs.drawn (w.drawn + 1)
    refine ⟨_, _, ρ', run_bytes_of_string w s d e b h1 h2 h3, ?_, ?_⟩
    · have hw := SameBut.alloc w.drew o
      refine hsd.moreRO hle ?_ ?_ (fun k hk => hw.block k (by have : w.drew.heap.size = w.heap.size := rfl; have : ({ w with drawn := w.drawn + 1 } : World).heap.size = w.heap.size := rfl; omega)) hw.size rfl rfl rfl
      · intro k o' hk
        by_cases hkk : k = w.heap.size
        · subst hkk
          simp only [ρ', if_true, Option.some.injEq] at hk
          subst hk
          exact Array.getElem?_push_size
        · simp only [ρ', hkk, if_false] at hk
          rw [hw.block k hkk]; exact hs.ro k o' hk
      · intro k o' hk h0
        by_cases hkk : k = w.heap.size
        · show w.heap.size ≤ k
          omega
        · simp only [ρ', hkk, if_false] at hk
          rw [h0] at hk; cases hk
    · have hl : (bytesA b).length = b.size := by simp [bytesA]
      have key : ∀ i, i < b.size → (bytesA b).getD i .undef = .int .u8 (b.data.toList.getD i 0).toNat ∧ c'[i]? = some (.int .u8 (b.data.toList.getD i 0).toNat) := by
        intro i hi
        have hi' : i < b.data.toList.length := by simpa using hi
        have hi2 : i < b.data.size := hi
        constructor
        · simp [bytesA, List.getD, List.getElem?_eq_getElem hi']
        · simp only [c', bytesRow]
          rw [Array.getElem?_append_left (by simpa using hi2)]
          simp [List.getD, List.getElem?_eq_getElem hi', Array.getElem?_eq_getElem hi2]
      have := Rv.slc (ρ := ρ') (some μ) 3 (bytesA b) w.heap.size 0 cap 1 (fun i _ => .int .u8 (b.data.toList.getD i 0).toNat) (by decide) (by omega) (fun h => absurd h (by decide))
        (fun i hi => by rw [(key i (by omega)).1]; rfl)
        (fun i hi j hj => by
          have hj0 : j = 0 := by omega
          subst hj0
          simp only [RO.cell, ρ', if_true, o, Nat.zero_add, Nat.mul_one, Nat.add_zero]
          exact (key i (by omega)).2)
        (fun i j => by
          rcases Nat.lt_or_ge i b.size with hi | hi
          · rw [(key i hi).1]
            cases j with
            | zero => exact .int ..
            | succ j => exact .undef ..
          · rw [getD_le (l := bytesA b) (j := i) (by rw [hl]; exact hi)]
            cases j <;> exact .undef ..)
      rw [hl] at this
      exact this
end
end Go.Proofs.YtblebiafhhhflaaGreat

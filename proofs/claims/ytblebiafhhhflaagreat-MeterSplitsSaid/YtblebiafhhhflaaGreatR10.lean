/- New variables, literals of slices, make; calls. -/
import Derived.Test.YtblebiafhhhflaaGreatR9
import Derived.IntWalk
import Derived.RangeFuncSeq
namespace Go.Proofs.YtblebiafhhhflaaGreat
open Go.RowKit

/-- What a call gives. -/
structure Gives (ρ : RO) (μ : Lay) (m : Nat) (w : World) (v : AV) (O : List (List AV)) (e : Ending) (w' : World) : Prop where
  ex : ∃ cv ρ', e = .returned cv ∧ ρ.le ρ' ∧ (∀ k o, ρ' k = some o → w'.heap[k]? = some o) ∧ (∀ k o, ρ' k = some o → ρ k = none → w.heap.size ≤ k) ∧
    Rv ρ' (some μ) v cv ∧ ∀ b cs, O[b]? = some cs → BoxAt ρ' (some μ) μ w' b cs
  len : O.length = m
  frame : ∀ k, k < w.heap.size → (∀ b, b < m → (μ b).2 ≠ 0 → k ≠ (μ b).1) → w'.heap[k]? = w.heap[k]?
  size : w.heap.size ≤ w'.heap.size
  os : w'.os = w.os
  tape : w'.tape = w.tape
  output : w'.output = w.output

/-- THE CONTRACT OF A FUNCTION: called with values as 'args', the boxes that are handed over as 'O', it returns a value as 'v' and leaves these boxes as 'O''; of all other memory nothing has turned. -/
structure SpecOf (P : Program) (f : FuncId) (args : List AV) (O : List (List AV)) (v : AV) (O' : List (List AV)) : Prop where
  enter : ∀ (vs : Array Value) (w : World), (callFunc f vs).run P w = .ok (.enter f vs) w
  run : ∀ (ρ : RO) (μ : Lay) (w : World) (vs : Array Value), (∀ k o, ρ k = some o → w.heap[k]? = some o) → (∀ b cs, O[b]? = some cs → BoxAt ρ (some μ) μ w b cs) →
    (∀ b b', b < O.length → b' < O.length → b ≠ b' → (μ b).2 ≠ 0 → (μ b').2 ≠ 0 → (μ b).1 ≠ (μ b').1) → (∀ b, b < O.length → (μ b).2 ≠ 0 → ρ (μ b).1 = none) →
    Rvs ρ (some μ) args vs → Calls P f vs w (Gives ρ μ O.length w v O')

/-- What a call of a function gives that returns a slice of new memory which nobody else knows. -/
structure FreshG (ρ : RO) (w : World) (k : Nat) (es : List AV) (e : Ending) (w' : World) : Prop where
  ex : ∃ (ρ' : RO) (B κ : Nat) (cv : Value), e = .returned cv ∧ ρ.le ρ' ∧ (∀ k o, ρ' k = some o → w'.heap[k]? = some o) ∧ (∀ k o, ρ' k = some o → ρ k = none → w.heap.size ≤ k) ∧
    (∀ ag, Rv ρ' (some fun _ => (B, κ)) (.aslc 0 0 es.length k ag) cv) ∧ ρ' B = none ∧ w.heap.size ≤ B ∧ (es.flatMap AV.cells).length ≤ κ ∧
    (κ = 0 ∨ ∃ c e, w'.heap[B]? = some (.cells c e (0, 0)) ∧ c.size = κ ∧ RvC ρ' none (es.flatMap AV.cells) c)
  frame : ∀ k, k < w.heap.size → w'.heap[k]? = w.heap[k]?
  size : w.heap.size ≤ w'.heap.size
  os : w'.os = w.os
  tape : w'.tape = w.tape
  output : w'.output = w.output
structure FreshOf0 (P : Program) (f : FuncId) (args : List AV) (k : Nat) (es : List AV) : Prop where
  enter : ∀ (vs : Array Value) (w : World), (callFunc f vs).run P w = .ok (.enter f vs) w
  run : ∀ (ρ : RO) (w : World) (vs : Array Value), (∀ k o, ρ k = some o → w.heap[k]? = some o) → Rvs ρ none args vs → Calls P f vs w (FreshG ρ w k es)
/-- What a function does that is handed a slice of ints, which nobody else knows, and rewrites it: nothing is returned, or its first elements. -/
structure MutOf (P : Program) (f : FuncId) (cs : List AV) (k : Nat) (cs' : List AV) : Prop where
  enter : ∀ (vs : Array Value) (w : World), (callFunc f vs).run P w = .ok (.enter f vs) w
  run : ∀ (zs zs' : List Int) (w : World) (B cap : Nat) (c : Array Value) (e : TypeId), cs = zs.map (AV.int .i64) → cs' = zs'.map (AV.int .i64) → 0 < zs.length → zs'.length = zs.length → w.heap[B]? = some (.cells c e (0, 0)) → zs.length ≤ cap → cap ≤ c.size →
    (∀ j, j < zs.length → c.getD j Go.undef = .int .i64 (zs.getD j 0)) →
    Calls P f #[.slice (some ⟨B, 0, none⟩) zs.length cap] w fun en w' => en = .returned (match k with
      | 0 => .tuple #[]
      | m + 1 => .slice (some ⟨B, 0, none⟩) m cap) ∧ w'.os = w.os ∧ w'.tape = w.tape ∧ w'.output = w.output ∧ w.heap.size ≤ w'.heap.size ∧ (∀ i, i < w.heap.size → i ≠ B → w'.heap[i]? = w.heap[i]?) ∧
      ∃ c', w'.heap[B]? = some (.cells c' e (0, 0)) ∧ c'.size = c.size ∧ ∀ j, j < zs.length → c'.getD j Go.undef = .int .i64 (zs'.getD j 0)
/-- The same of both kinds. -/
def FreshOf (P : Program) (f : FuncId) (args : List AV) (k : Nat) (es : List AV) : Prop :=
  match args with
  | [.tup cs] => MutOf P f cs k es
  | args => FreshOf0 P f args k es
theorem freshOf_0 {P : Program} {f : FuncId} {args : List AV} {k : Nat} {es : List AV} (h : FreshOf P f args k es) (hn : noTup args = true) : FreshOf0 P f args k es := by
  unfold FreshOf at h
  split at h
  · simp [noTup, isTup] at hn
  · exact h
/-- What a round of a loop keeps for the function that it goes over; and what that one may turn between the rounds. -/
structure ItKeep (ρ : RO) (μ : Lay) (m : Nat) (W W' : World) : Prop where
  size : W.heap.size ≤ W'.heap.size
  ro : ∀ k o, ρ k = some o → W'.heap[k]? = some o
  box : ∀ b, b < m → (μ b).2 ≠ 0 → W'.heap[(μ b).1]? = W.heap[(μ b).1]?
  os : W'.os = W.os
  tape : W'.tape = W.tape
  output : W'.output = W.output
structure ItStep (μ : Lay) (m : Nat) (W W' : World) : Prop where
  size : W.heap.size ≤ W'.heap.size
  frame : ∀ k, k < W.heap.size → (∀ b, b < m → (μ b).2 ≠ 0 → k ≠ (μ b).1) → W'.heap[k]? = W.heap[k]?
  os : W'.os = W.os
  tape : W'.tape = W.tape
  output : W'.output = W.output
/-- What a function that loops go over does: it yields 'xs', one after the other, till a round says 'no more'. -/
structure SeqOf (P : Program) (g : FuncId) (args : List AV) (O : List (List AV)) (xs : List (List AV)) : Prop where
  enter : ∀ (vs : Array Value) (w : World), (callFunc g vs).run P w = .ok (.enter g vs) w
  run : ∀ (ρ : RO) (μ : Lay) (w : World) (vs : Array Value) (l : Nat) (J : Nat → World → Prop) (Jx : World → Prop), (∀ k o, ρ k = some o → w.heap[k]? = some o) → (∀ b cs, O[b]? = some cs → BoxAt ρ (some μ) μ w b cs) →
    (∀ b b', b < O.length → b' < O.length → b ≠ b' → (μ b).2 ≠ 0 → (μ b').2 ≠ 0 → (μ b).1 ≠ (μ b').1) → (∀ b, b < O.length → (μ b).2 ≠ 0 → ρ (μ b).1 = none) →
    Rvs ρ (some μ) args vs →
    (∀ i W W', J i W → ItStep μ O.length W W' → J i W') → (∀ W W', Jx W → ItStep μ O.length W W' → Jx W') →
    (∀ i x ys W, xs[i]? = some x → J i W → Rvs ρ none x ys → (∀ k o, ρ k = some o → W.heap[k]? = some o) →
      YieldAt Fence.wide 0 P l ys W fun e W' => ItKeep ρ μ O.length W W' ∧ ((e = .returned (.bool true) ∧ J (i + 1) W') ∨ (e = .returned (.bool false) ∧ Jx W'))) →
    J 0 w → Calls P g (#[.func (.yield l) #[] #[]] ++ vs) w fun e W' => (∃ v, e = .returned v) ∧ (J xs.length W' ∨ Jx W')
def SpecsOf (P : Program) (frs : Ways) (il : InlF) : Specs := ⟨SpecOf P, FreshOf P, frs, il, SeqOf P⟩

section
variable {ds : List Deferred} {n : Nat} {μ0 : Lay} {ρ0 : RO} {w0 : World} {ρ : RO} {μ : Lay} {σ : St} {a : Act} {w : World}

/-- More memory that nobody writes. -/
theorem Sat.moreRO (hs : Sat ds n μ0 ρ0 w0 ρ μ σ a w) {ρ' : RO} {w' : World} (hle : ρ.le ρ') (hro : ∀ k o, ρ' k = some o → w'.heap[k]? = some o) (hnew : ∀ k o, ρ' k = some o → ρ k = none → w.heap.size ≤ k)
    (hw : ∀ k, k < w.heap.size → w'.heap[k]? = w.heap[k]?) (hsz : w.heap.size ≤ w'.heap.size) (hos : w'.os = w.os) (ht : w'.tape = w.tape) (hout : w'.output = w.output) : Sat ds n μ0 ρ0 w0 ρ' μ σ a w' := by
  have blkLt : ∀ b cs, σ.box b = some cs → (μ b).2 ≠ 0 → (μ b).1 < w.heap.size := by
    intro b cs hb hk
    obtain ⟨y, hy, rfl⟩ := box_some hb
    rcases (hs.box b y hy).blk with h0 | ⟨o, h, _⟩
    · exact absurd h0 hk
    · exact (Array.getElem?_eq_some_iff.1 h).1
  exact { hs with
    defs := hs.defs.mono hle
    sl := fun t => (hs.sl t).mono hle
    box := fun b cs hb => by
      obtain ⟨h1, h2⟩ := hs.box b cs hb
      refine ⟨h1, ?_⟩
      rcases h2 with h2 | ⟨o, h3, h5⟩
      · exact .inl h2
      · exact .inr ⟨o, by rw [hw _ (Array.getElem?_eq_some_iff.1 h3).1]; exact h3, h5.imp rfl fun j cv hj => hj.mono hle⟩
    sep := fun b cs hb hk => by
      have h1 := hs.sep b cs hb hk
      cases h2 : ρ' (μ b).1 with
      | none => rfl
      | some o => have := hnew _ _ h2 h1; have := blkLt b cs hb hk; omega
    ro := hro
    le := hs.le.trans hle
    new := fun k o h h0 => by
      cases h1 : ρ k with
      | none => have := hnew k o h h1; have := hs.size; exact .inl (by omega)
      | some o' => exact hs.new k o' h1 h0
    frame := fun k hk h => by rw [hw k (by have := hs.size; omega)]; exact hs.frame k hk h
    size := Nat.le_trans hs.size hsz
    os := hos.trans hs.os
    tape := ht.trans hs.tape
    output := hout.trans hs.output }

theorem alloc_spec {P : Program} {t : TypeId} {d : Nat} {z : AV} {K : St → Prop} (hs : Sat ds n μ0 ρ0 w0 ρ μ σ a w) (hz : zeroA P t = some z) (h : mkBox n d ⟨t, false, z.cells⟩ (.ref (n + d) 0) σ K) :
    ∃ cv w' μ' σ', (Instr.alloc t true (.tuple #[])).run P w = .ok cv w' ∧ Sat ds n μ0 ρ0 w0 ρ μ' σ' (a.put (some d) cv) w' ∧ K σ' := by
  obtain ⟨cz, hzr, hzs, rfl⟩ := zeroA_spec hz w
  obtain ⟨hl, hr⟩ := solid_spec hzs (Rv.ofV ρ (some μ) cz)
  obtain ⟨μ', σ', h1, h2⟩ := hs.alloc (e := t) (c := cz.cells) (cp := .pointer (some ⟨w.heap.size, 0, none⟩)) h (Nat.le_of_eq hl) hr (fun μ' hm => by
    have := Rv.ref (ρ := ρ) μ' (n + d) 0
    rw [hm] at this; exact this)
  refine ⟨_, _, μ', σ', ?_, h1, h2⟩
  simp only [Instr.alloc, Sem.run_bind, hzr, Result.andThen_ok, newVar, newRow, run_newObj, Sem.run_pure]
  rfl

theorem box_spec {P : Program} {t : TypeId} {d : Nat} {v : AV} {cv : Value} {K : St → Prop} (hs : Sat ds n μ0 ρ0 w0 ρ μ σ a w) (hv : Rv ρ (some μ) v cv) (hsol : v.solid = true) (h : mkBox n d ⟨t, false, v.cells⟩ (.ref (n + d) 0) σ K) :
    ∃ cp w' μ' σ', (Instr.box t cv).run P w = .ok cp w' ∧ Sat ds n μ0 ρ0 w0 ρ μ' σ' (a.put (some d) cp) w' ∧ K σ' := by
  obtain ⟨hl, hr⟩ := solid_spec hsol hv
  obtain ⟨μ', σ', h1, h2⟩ := hs.alloc (e := t) (c := cv.cells) (cp := .pointer (some ⟨w.heap.size, 0, none⟩)) h (Nat.le_of_eq hl) hr (fun μ' hm => by
    have := Rv.ref (ρ := ρ) μ' (n + d) 0
    rw [hm] at this; exact this)
  refine ⟨_, _, μ', σ', ?_, h1, h2⟩
  simp only [Instr.box, Sem.run_bind, Result.andThen_ok, newVar, newRow, run_newObj, Sem.run_pure]
  rfl

theorem flatten_replicate {z : List AV} : ∀ (m : Nat), ((List.replicate m z).flatten).length = m * z.length ∧ ∀ i, i < m → ∀ j, j < z.length → ((List.replicate m z).flatten).getD (i * z.length + j) .undef = z.getD j .undef := by
  intro m
  induction m with
  | zero => exact ⟨by simp, fun i hi => by omega⟩
  | succ m ih =>
    refine ⟨by simp [Nat.add_mul, ih.1, List.replicate_succ]; omega, fun i hi j hj => ?_⟩
    simp only [List.replicate_succ, List.flatten_cons, List.getD, List.getElem?_append]
    cases i with
    | zero => rw [if_pos (by omega)]; simp
    | succ i =>
      have e : (i + 1) * z.length + j = z.length + (i * z.length + j) := by rw [Nat.add_mul]; omega
      rw [if_neg (by omega), e, Nat.add_sub_cancel_left]
      have := ih.2 i (by omega) j hj
      simpa [List.getD] using this

theorem makeSlice_spec {P : Program} {t e : TypeId} {d : Nat} {x y z : AV} {cx cy : Value} {k k' : IntKind} {l c : Int} {p q : Bool} {K : St → Prop} (hs : Sat ds n μ0 ρ0 w0 ρ μ σ a w) (hu : P.underlying t = some (.slice e))
    (hx : Rv ρ (some μ) x cx) (hy : Rv ρ (some μ) y cy) (hl : x.isI = some (k, l, p)) (hc : y.isI = some (k', c, q)) (hz : zeroA P e = some z) (hzt : z.tree = true)
    (h0 : 0 ≤ l) (h1 : l ≤ c) (hb : (c + 1) * (P.bytesOf e + 1) ≤ 2 ^ 48) (hsz : 0 < P.cellsOf e) (hzl : z.cells.length = P.cellsOf e)
    (h : mkBox n d ⟨e, true, (List.replicate l.toNat z.norm.cells).flatten⟩ (.aslc (n + d) 0 l.toNat (P.cellsOf e) (isAggT P e)) σ K) :
    ∃ cv w' μ' σ', (Instr.makeSlice t cx cy).run P w = .ok cv w' ∧ Sat ds n μ0 ρ0 w0 ρ μ' σ' (a.put (some d) cv) w' ∧ K σ' := by
  obtain ⟨cz, hzr, hzs, rfl⟩ := zeroA_spec hz w
  obtain ⟨hzl', hzc⟩ := solid_spec (norm_solid hzs) ((Rv.ofV ρ (some μ) cz).of_tree hzt).norm
  rw [norm_cells_len] at hzl'
  rw [isI_spec hl hx, isI_spec hc hy]
  obtain ⟨ln, rfl⟩ : ∃ m : Nat, l = m := ⟨l.toNat, by omega⟩
  obtain ⟨cn, rfl⟩ : ∃ m : Nat, c = m := ⟨c.toNat, by omega⟩
  simp only [Int.toNat_natCast] at h
  have hi : ∃ i, (typeInfo e).run P w = .ok i w ∧ i.bytes = P.bytesOf e ∧ (sizeOf e).run P w = .ok (P.cellsOf e) w := by
    have : ∃ i, P.info? e = some i := by
      cases hh : P.info? e with
      | none => simp [zeroA, hh] at hz
      | some i => exact ⟨i, rfl⟩
    obtain ⟨i, hi⟩ := this
    exact ⟨i, by simp [typeInfo, hi], by simp [Program.bytesOf, hi], by simp [sizeOf, typeInfo, hi, Program.cellsOf]⟩
  obtain ⟨i, hi1, hi2, hi3⟩ := hi
  have hcb : (cn : Int) ≤ 2 ^ 48 := by
    have : ((cn : Int) + 1) * 1 ≤ ((cn : Int) + 1) * (P.bytesOf e + 1) := Int.mul_le_mul_of_nonneg_left (by omega) (by omega)
    omega
  have wl : IntKind.i64.wrap (ln : Int) = ln := IntWalk.i64_in _ (by omega)
  have wc : IntKind.i64.wrap (cn : Int) = cn := IntWalk.i64_in _ (by omega)
  have hbytes : ((P.bytesOf e : Int) * cn) ≤ 2 ^ 48 := by
    have e1 : ((cn : Int) + 1) * (P.bytesOf e + 1) = (P.bytesOf e : Int) * cn + (P.bytesOf e : Int) + cn + 1 := by
      rw [Int.add_mul, Int.mul_add, Int.mul_comm (cn : Int)]; omega
    omega
  let arr : Array Value := (Array.range (cn * P.cellsOf e)).map (cz.cells[· % cz.cells.size]!)
  have hasz : arr.size = cn * P.cellsOf e := by simp [arr]
  obtain ⟨f1, f2⟩ := flatten_replicate (z := (ofV cz).norm.cells) ln
  rw [norm_cells_len, hzl] at f1 f2
  obtain ⟨μ', σ', g1, g2⟩ := hs.alloc (e := e) (c := arr) (cp := .slice (some ⟨w.heap.size, 0, none⟩) ln cn) h (by
      show ((List.replicate ln (ofV cz).norm.cells).flatten).length ≤ _
      rw [f1, hasz]; exact Nat.mul_le_mul_right _ (by omega)) (by
      intro j
      show Rv ρ none (((List.replicate ln (ofV cz).norm.cells).flatten).getD j .undef) _
      rcases Nat.lt_or_ge j (ln * P.cellsOf e) with hj | hj
      · have hd : j / P.cellsOf e < ln := Nat.div_lt_of_lt_mul (by rwa [Nat.mul_comm])
        have hm : j % P.cellsOf e < P.cellsOf e := Nat.mod_lt _ hsz
        have e1 := f2 (j / P.cellsOf e) hd (j % P.cellsOf e) hm
        rw [Nat.mul_comm, Nat.div_add_mod] at e1
        rw [e1]
        have hjc : j < cn * P.cellsOf e := Nat.lt_of_lt_of_le hj (Nat.mul_le_mul_right _ (by omega))
        have e2 : arr.getD j Go.undef = cz.cells.getD (j % P.cellsOf e) Go.undef := by
          have hs' : cz.cells.size = P.cellsOf e := by omega
          have : j % cz.cells.size < cz.cells.size := by rw [hs']; exact hm
          rw [Array.getD, dif_pos (by rw [hasz]; exact hjc)]
          simp only [arr, Array.getElem_map, Array.getElem_range, Array.getInternal_eq_getElem]
          rw [getElem!_pos cz.cells (j % cz.cells.size) this, Array.getD, dif_pos (by rw [hs']; exact hm)]
          simp only [Array.getInternal_eq_getElem, hs']
        rw [e2]; exact hzc _
      · rw [getD_le (by rw [f1]; exact hj)]; exact .undef ..)
    (fun μ' hm => by
      have := Rv.aslc (ρ := ρ) μ' (n + d) 0 ln (P.cellsOf e) (isAggT P e) cn (by omega) (by rw [hm]; simp only [Nat.zero_add]; omega)
      rw [hm] at this; exact this)
  refine ⟨_, _, μ', σ', ?_, g1, g2⟩
  simp only [Instr.makeSlice, Sem.run_bind, run_underlying hu, Result.andThen_ok, asInt, asIntOf, Sem.run_pure, hi1, hi2, wl, wc]
  rw [Sem.run_ite, if_neg]
  · simp only [Sem.run_bind, run_askRoom, Result.andThen_ok, hi3, Int.toNat_natCast]
    by_cases hn : cn * P.cellsOf e = 0
    · have hc0 : cn = 0 := by rcases Nat.mul_eq_zero.1 hn with h | h <;> omega
      subst hc0
      simp only [Nat.zero_mul, if_true, Sem.run_pure, Result.andThen_ok, newRow, Sem.run_bind, run_newObj]
      have e1 : ∀ g : Nat → Value, (Array.range 0).map g = arr := fun g => by simp [arr]
      rw [e1]; rfl
    · rw [Sem.run_ite, if_neg hn]
      simp only [Sem.run_bind, hzr, Result.andThen_ok, Sem.run_pure, newRow, run_newObj]
      rfl
  · simp only [Bool.or_eq_true, decide_eq_true_eq, not_or]
    refine ⟨⟨⟨by omega, by omega⟩, by omega⟩, by omega⟩
end
end Go.Proofs.YtblebiafhhhflaaGreat

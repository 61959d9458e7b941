/- Calls by contract. -/
import Derived.Test.YtblebiafhhhflaaGreatR11
namespace Go.Proofs.YtblebiafhhhflaaGreat
open Go.RowKit

theorem idx_spec {b : Nat} : ∀ {B : List Nat} {i : Nat}, idx b B = some i → B[i]? = some b := by
  intro B
  induction B with
  | nil => intro i h; cases h
  | cons x r ih =>
    intro i h
    simp only [idx] at h
    split at h
    · rename_i hx; cases h; simp [hx]
    · obtain ⟨j, hj, rfl⟩ := Option.map_eq_some_iff.1 h
      simpa using ih hj
theorem idx_none {b : Nat} : ∀ {B : List Nat}, idx b B = none → b ∉ B := by
  intro B
  induction B with
  | nil => intro _; simp
  | cons x r ih =>
    intro h
    simp only [idx] at h
    split at h
    · cases h
    · rename_i hx
      have := ih (Option.map_eq_none_iff.1 h)
      simp only [List.mem_cons, not_or]
      exact ⟨Ne.symm hx, this⟩
theorem mapM_bx {g : Nat → Option Bx} : ∀ {B : List Nat} {bs : List Bx}, B.mapM g = some bs → bs.length = B.length ∧ ∀ (i b : Nat), B[i]? = some b → ∃ x, bs[i]? = some x ∧ g b = some x := by
  intro B
  induction B with
  | nil => intro bs h; cases h; exact ⟨rfl, fun i b hi => by simp at hi⟩
  | cons x r ih =>
    intro bs h
    rw [List.mapM_cons] at h
    cases hx : g x with
    | none => simp [hx] at h
    | some y =>
      cases hr : r.mapM g with
      | none => simp [hx, hr] at h
      | some ys =>
        simp only [hx, hr, Option.bind_eq_bind, Option.bind_some, Option.pure_def, Option.some.injEq] at h
        subst h
        obtain ⟨h1, h2⟩ := ih hr
        refine ⟨by simp [h1], fun i b hi => ?_⟩
        cases i with
        | zero => simp only [List.getElem?_cons_zero, Option.some.injEq] at hi; subst hi; exact ⟨y, by simp, hx⟩
        | succ i => simpa using h2 i b (by simpa using hi)

theorem snapL_getD (g : Nat → Option (List AV)) (l : List AV) (j : Nat) : (AV.snapL g l).getD j .undef = (l.getD j .undef).snap g := by
  induction l generalizing j with
  | nil => rfl
  | cons x r ih => cases j <;> simp_all [AV.snapL]
theorem snapL_length (g : Nat → Option (List AV)) (l : List AV) : (AV.snapL g l).length = l.length := by induction l <;> simp_all [AV.snapL]
theorem mem_aslcsL {l : List AV} {t : Nat × Nat × Nat × Bool} {j : Nat} (h : t ∈ (l.getD j .undef).aslcs) : t ∈ AV.aslcsL l := by
  induction l generalizing j with
  | nil => simp [AV.aslcs] at h
  | cons x r ih =>
    simp only [AV.aslcsL, List.mem_append]
    cases j with
    | zero => exact .inl h
    | succ j => exact .inr (ih (by simpa using h))

/-- A slice of a box lies in it. -/
def okA (g : Nat → Option (List AV)) (t : Nat × Nat × Nat × Bool) : Prop := ∀ cs, g t.1 = some cs → t.2.1 ≤ cs.length ∧ (t.2.2.2 = false → t.2.2.1 = 1 ∧ ones cs = true)
theorem withOK_elim {g : Nat → Option (List AV)} {K : Prop} : ∀ {l : List (Nat × Nat × Nat × Bool)}, withOK g l K → (∀ t ∈ l, okA g t) ∧ K := by
  intro l
  induction l with
  | nil => intro h; exact ⟨by simp, h⟩
  | cons t r ih =>
    obtain ⟨b, m, esz, ag⟩ := t
    intro h
    simp only [withOK] at h
    split at h
    · rename_i cs hb
      split at h
      · rename_i ha
        obtain ⟨h1, h2⟩ := ih h.2
        refine ⟨fun t ht => ?_, h2⟩
        rcases List.mem_cons.1 ht with rfl | ht
        · intro cs' hcs
          simp only [hb, Option.some.injEq] at hcs
          subst hcs
          exact ⟨h.1, by simp [ha]⟩
        · exact h1 t ht
      · split at h
        · rename_i he
          obtain ⟨h1, h2⟩ := ih h.2
          refine ⟨fun t ht => ?_, h2⟩
          rcases List.mem_cons.1 ht with rfl | ht
          · intro cs' hcs
            simp only [hb, Option.some.injEq] at hcs
            subst hcs
            exact ⟨h.1.1, fun _ => ⟨he, h.1.2⟩⟩
          · exact h1 t ht
        · exact h.elim
    · rename_i hb
      obtain ⟨h1, h2⟩ := ih h
      refine ⟨fun t ht => ?_, h2⟩
      rcases List.mem_cons.1 ht with rfl | ht
      · intro cs' hcs
        simp only [hb] at hcs; cases hcs
      · exact h1 t ht

theorem ro_cell {ρ : RO} {w : World} {B j : Nat} {v : Value} (h : w.cell? ⟨B, j, none⟩ = some v) (hb : ρ B = w.heap[B]?) : ρ.cell B j = some v := by
  unfold World.cell? at h
  unfold RO.cell
  rw [hb]
  split at h
  · rename_i c e fr hh
    simpa [hh] using h
  · cases h

section
variable {ds : List Deferred} {n : Nat} {μ0 : Lay} {ρ0 : RO} {w0 : World} {ρ : RO} {μ : Lay} {σ : St} {a : Act} {w : World}

theorem boxN_some {b : Nat} {cs : List AV} (h : σ.boxN b = some cs) : ∃ x, σ.bx.getD b none = some x ∧ cs.length = x.cs.length := by
  unfold St.boxN at h
  split at h
  · rename_i x hx
    refine ⟨x, hx, ?_⟩
    split at h
    · cases h
    split at h
    · cases h; rfl
    · split at h
      · cases h; exact normL_length _
      · cases h
  · cases h

theorem Sat.snap (hs : Sat ds n μ0 ρ0 w0 ρ μ σ a w) {ρc : RO} (hle : ρ.le ρc) {snaps : List Nat} (hblk : ∀ b x, b ∈ snaps → σ.bx.getD b none = some x → (μ b).2 ≠ 0 → ρc (μ b).1 = w.heap[(μ b).1]?)
    {v : AV} {cv : Value} (hv : Rv ρ (some μ) v cv) (hok : ∀ t ∈ v.aslcs, t.1 ∈ snaps ∧ okA σ.boxN t) : Rv ρc (some μ) (v.snap σ.boxN) cv := by
  generalize hn : some μ = o at hv
  induction hv with
  | undef _ v => exact .undef _ v
  | tt _ => exact .tt _
  | ff _ => exact .ff _
  | bool _ b => exact .bool _ b
  | lit _ k n => exact .lit _ k n
  | int _ k n => exact .int _ k n
  | str _ s => exact .str _ s
  | nilp _ => exact .nilp _
  | eptr _ cs b o off c hc h _ => exact (Rv.eptr _ cs b o off c hc h).mono hle
  | ref m b off => cases hn; exact .ref μ b off
  | nilslc _ m => exact .nilslc _ m
  | eslc _ m a hm => exact .eslc _ m a hm
  | slc _ m es b o cap k c hm hcap h2 hk hc h _ => exact (Rv.slc _ m es b o cap k c hm hcap h2 hk hc h).mono hle
  | aslc m b off len esz ag cap hcap hr =>
    cases hn
    obtain ⟨hmem, hok'⟩ := hok (b, off + len * esz, esz, ag) (by simp [AV.aslcs])
    cases hb : σ.boxN b with
    | none => simp only [AV.snap, hb]; exact .undef ..
    | some cs =>
      simp only [AV.snap, hb]
      obtain ⟨hfit, hag⟩ := hok' cs hb
      simp only at hfit hag
      obtain ⟨f, g1, g2⟩ := hs.cellsN hb
      obtain ⟨x, hx, hxl⟩ := boxN_some hb
      have hlen := (hs.box b x hx).len
      refine Rv.chunks (c := fun j => f (off + j)) (by simp; omega) (fun h => ⟨(hag h).1, ?_⟩) ?_ ?_ hcap (by simp) (by simp)
      · have := (hag h).2
        unfold ones at this ⊢
        rw [List.all_eq_true] at this ⊢
        exact fun v hv => this v (List.mem_of_mem_drop hv)
      · intro j hj
        have h1 := g1 (off + j) (by omega)
        rw [Nat.zero_add] at h1
        exact ro_cell h1 (hblk b x hmem hx (by omega))
      · intro j
        have : (cs.drop off).getD j .undef = cs.getD (off + j) .undef := by simp [List.getD]
        rw [this]
        exact (g2 _).mono hle
  | aslc0 m b esz ag p =>
    cases hb : σ.boxN b with
    | none => simp only [AV.snap, hb]; exact .undef ..
    | some cs =>
      simp only [AV.snap, hb]
      have : chunks esz ag 0 (cs.drop 0) = [] := by cases ag <;> simp [chunks, chunkA]
      rw [this]
      cases p with
      | none => exact .nilslc _ 3
      | some x => exact .eslc _ 3 x (by simp)
  | fn _ g first caps vf vc hf' hc _ _ ih1 ih2 =>
    exact .fn _ g _ _ vf vc (by rw [snapL_length]; exact hf') (by rw [snapL_length]; exact hc)
      (fun j => by rw [snapL_getD]; exact ih1 j (fun t ht => hok t (by simp [AV.aslcs, mem_aslcsL ht])) hn) (fun j => by rw [snapL_getD]; exact ih2 j (fun t ht => hok t (by simp [AV.aslcs, mem_aslcsL ht])) hn)
  | nilfn _ => exact .nilfn _
  | iface _ t v v' _ ih => exact .iface _ t _ v' (ih (fun t ht => hok t (by simpa [AV.aslcs] using ht)) hn)
  | nilif _ => exact .nilif _
  | agg _ cs vs hl _ ih => exact .agg _ _ vs (by rw [snapL_length]; exact hl) (fun j => by rw [snapL_getD]; exact ih j (fun t ht => hok t (by simp [AV.aslcs, mem_aslcsL ht])) hn)
  | tup _ cs vs hl _ ih => exact .tup _ _ vs (by rw [snapL_length]; exact hl) (fun j => by rw [snapL_getD]; exact ih j (fun t ht => hok t (by simp [AV.aslcs, mem_aslcsL ht])) hn)
  | map m b => cases hn; exact .map μ b
  | nilmap _ => exact .nilmap _
  | yld _ l => exact .yld _ l

/-- Behind a call: memory that the caller alone knows is as it was, boxes that were handed over are as the callee left them, new memory is written by nobody. -/
theorem Sat.called (hs : Sat ds n μ0 ρ0 w0 ρ μ σ a w) {B : List Nat} {bx' : List (Option Bx)} {ρn : RO} {w' : World}
    (hbx : ∀ b x, bx'.getD b none = some x → (b ∉ B ∧ σ.bx.getD b none = some x) ∨ (b ∈ B ∧ (σ.bx.getD b none).isSome = true ∧ x.arr = false ∧ BoxAt ρn (some μ) μ w' b x.cs))
    (hle : ρ.le ρn) (hro : ∀ k o, ρn k = some o → w'.heap[k]? = some o) (hnew : ∀ k o, ρn k = some o → ρ k = none → w.heap.size ≤ k ∨ ∃ b x, σ.bx.getD b none = some x ∧ (μ b).2 ≠ 0 ∧ (μ b).1 = k ∧ b ∉ B ∧ bx'.getD b none = none ∧ n ≤ b)
    (hframe : ∀ k, k < w.heap.size → (∀ b, b ∈ B → (μ b).2 ≠ 0 → k ≠ (μ b).1) → w'.heap[k]? = w.heap[k]?) (hsz : w.heap.size ≤ w'.heap.size) (hos : w'.os = w.os) (ht : w'.tape = w.tape) (hout : w'.output = w.output)
    (hB : ∀ b ∈ B, (σ.bx.getD b none).isSome = true) :
    Sat ds n μ0 ρ0 w0 ρn μ { σ with bx := bx' } a w' := by
  have live : ∀ b x, bx'.getD b none = some x → ∃ y, σ.bx.getD b none = some y := by
    intro b x h
    rcases hbx b x h with ⟨_, h⟩ | ⟨_, h, _⟩
    · exact ⟨_, h⟩
    · exact Option.isSome_iff_exists.1 h
  have liveB : ∀ b cs, ({ σ with bx := bx' } : St).box b = some cs → ∃ cs', σ.box b = some cs' := by
    intro b cs h
    obtain ⟨x, hx, -⟩ := box_some h
    obtain ⟨y, hy⟩ := live b x hx
    exact ⟨_, box_bx hy⟩
  have blkLt : ∀ b x, σ.bx.getD b none = some x → (μ b).2 ≠ 0 → (μ b).1 < w.heap.size := by
    intro b x hb hk
    rcases (hs.box b x hb).blk with h0 | ⟨o, h, _⟩
    · exact absurd h0 hk
    · exact (Array.getElem?_eq_some_iff.1 h).1
  refine { dfe := hs.dfe, defs := hs.defs.mono hle, sz := hs.sz, sl := fun t => (hs.sl t).mono hle, box := ?_, inj := ?_, sep := ?_, own := ?_, inc := hs.inc, ro := hro, le := hs.le.trans hle, new := ?_, frame := ?_, size := Nat.le_trans hs.size hsz, os := hos.trans hs.os, tape := ht.trans hs.tape, output := hout.trans hs.output }
  · intro b x h
    rcases hbx b x h with ⟨hnB, h⟩ | ⟨hB', _, ha, hat⟩
    · obtain ⟨h1, h2⟩ := hs.box b x h
      refine ⟨h1, ?_⟩
      rcases h2 with h2 | ⟨o, h3, h5⟩
      · exact .inl h2
      · by_cases hk : (μ b).2 = 0
        · exact .inl hk
        · refine .inr ⟨o, ?_, h5.imp rfl fun j cv hj => hj.mono hle⟩
          rw [hframe _ (blkLt b x h hk) ?_]
          · exact h3
          · intro b' hb' hk' he
            obtain ⟨y, hy⟩ := Option.isSome_iff_exists.1 (hB b' hb')
            exact hs.inj b b' _ _ (box_bx h) (box_bx hy) (by rintro rfl; exact hnB hb') hk hk' he
    · have : lev μ x = some μ := by unfold lev; rw [if_neg (by simp [ha])]
      rw [this]; exact hat
  · intro b b' cs cs' h h'
    obtain ⟨_, g⟩ := liveB b cs h
    obtain ⟨_, g'⟩ := liveB b' cs' h'
    exact hs.inj b b' _ _ g g'
  · intro b cs h hk
    obtain ⟨x, hx, -⟩ := box_some h
    obtain ⟨y, hy⟩ := live b x hx
    have h1 := hs.sep b _ (box_bx hy) hk
    cases h2 : ρn (μ b).1 with
    | none => rfl
    | some o =>
      rcases hnew _ _ h2 h1 with h3 | ⟨b', y', hy', hk', he, _, hn', _⟩
      · have := blkLt b y hy hk; omega
      · by_cases hbb : b = b'
        · subst hbb
          simp only at hx
          rw [hn'] at hx; cases hx
        · exact absurd he.symm (hs.inj b b' _ _ (box_bx hy) (box_bx hy') hbb hk hk')
  · intro b cs h hk hn
    obtain ⟨_, g⟩ := liveB b cs h
    exact hs.own b _ g hk hn
  · intro k o h h0
    cases h1 : ρ k with
    | none =>
      rcases hnew k o h h1 with h3 | ⟨b', y', hy', hk', rfl, _, _, hnb⟩
      · have := hs.size; exact .inl (by omega)
      · exact hs.own b' _ (box_bx hy') hk' hnb
    | some o' => exact hs.new k o' h1 h0
  · intro k hk h
    rw [hframe k (by have := hs.size; omega) ?_]
    · exact hs.frame k hk h
    · intro b hb hkb he
      obtain ⟨y, hy⟩ := Option.isSome_iff_exists.1 (hB b hb)
      rcases Nat.lt_or_ge b n with hbn | hbn
      · have := hs.inc b hbn
        rw [this] at hkb he
        exact h b hbn hkb he
      · rcases hs.own b _ (box_bx hy) hkb hbn with h' | ⟨c, hc, h0, he'⟩
        · omega
        · exact h c hc h0 (he.trans he')
end
end Go.Proofs.YtblebiafhhhflaaGreat

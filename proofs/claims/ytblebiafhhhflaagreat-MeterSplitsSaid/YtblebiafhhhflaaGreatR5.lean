/- What it is for a state of the evaluator to be one of the machine's frame and world; boxes made and written. -/
import Derived.Test.YtblebiafhhhflaaGreatR4
namespace Go.Proofs.YtblebiafhhhflaaGreat
open Go.RowKit

/-- The entries of a map. -/
def MapV : List AV → List MapEntry → Prop
  | [], [] => True
  | x :: es, e :: E => (∃ k v, x = .agg [k, v] ∧ cvOf k = some e.key ∧ cvOf v = some e.val) ∧ MapV es E
  | _, _ => False
/-- The arrays of slices name no boxes. -/
def lev (μ : Lay) (x : Bx) : Option Lay := if x.arr then none else some μ
def mapL (lv : Option Lay) (cs : List AV) : Option (List AV) := match lv with
  | none => none
  | some _ => mapC cs
theorem lev_isSome (μ : Lay) (x : Bx) : (lev μ x).isSome = !x.arr := by unfold lev; cases x.arr <;> rfl
theorem mapL_lev (μ : Lay) (x : Bx) : mapL (lev μ x) x.cs = x.mp := by unfold lev Bx.mp; cases x.arr <;> rfl
theorem mapL_of {lv : Option Lay} {cs : List AV} (h : mapC cs = none) : mapL lv cs = none := by cases lv with
  | none => rfl
  | some μ => exact h
theorem mp_of {x : Bx} (h : mapC x.cs = none) : x.mp = none := by unfold Bx.mp; rw [h]; exact ite_self _
theorem mapL_arr {μ : Lay} {x : Bx} (h : x.arr = true) (cs : List AV) : mapL (lev μ x) cs = none := by unfold lev; rw [if_pos h]; rfl
theorem mapL_congr {lv lv' : Option Lay} {cs cs' : List AV} (hl : lv'.isSome = lv.isSome) (hm : mapC cs' = mapC cs) : mapL lv' cs' = mapL lv cs := by
  cases lv <;> cases lv' <;> first | rfl | exact hm | cases hl
/-- What an object is to what a box holds. -/
def ObjR (ρ : RO) (lv : Option Lay) (cs : List AV) (k : Nat) (o : Obj) : Prop :=
  match mapL lv cs with
  | none => ∃ c e, o = .cells c e (0, 0) ∧ c.size = k ∧ RvC ρ lv cs c
  | some es => ∃ E clock, o = .map E clock ∧ MapV es E.toList
theorem ObjR.imp {ρ ρ' : RO} {lv lv' : Option Lay} {cs cs' : List AV} {k : Nat} {o : Obj} (hm : mapC cs' = mapC cs) (h : ∀ j cv, Rv ρ lv (cs.getD j .undef) cv → Rv ρ' lv' (cs'.getD j .undef) cv) (ho : ObjR ρ lv cs k o) (hl : lv'.isSome = lv.isSome := by first | rfl | (simp only [lev_isSome]; done) | simp [lev_isSome, *]) : ObjR ρ' lv' cs' k o := by
  unfold ObjR at ho ⊢
  rw [mapL_congr hl hm]
  cases hc : mapL lv cs with
  | none =>
    rw [hc] at ho
    obtain ⟨c, e, h1, h2, h3⟩ := ho
    exact ⟨c, e, h1, h2, fun j => h j _ (h3 j)⟩
  | some es => rw [hc] at ho; exact ho
theorem ObjR.cells {ρ : RO} {lv : Option Lay} {cs : List AV} {k : Nat} {c : Array Value} {e : TypeId} (hm : mapL lv cs = none) (hsz : c.size = k) (h : RvC ρ lv cs c) : ObjR ρ lv cs k (.cells c e (0, 0)) := by
  unfold ObjR
  rw [hm]
  exact ⟨c, e, rfl, hsz, h⟩
theorem ObjR.get {ρ : RO} {lv : Option Lay} {cs : List AV} {k : Nat} {o : Obj} (hm : mapL lv cs = none) (h : ObjR ρ lv cs k o) : ∃ c e, o = .cells c e (0, 0) ∧ c.size = k ∧ RvC ρ lv cs c := by
  unfold ObjR at h
  rw [hm] at h
  exact h
theorem mapC1_norm (x : AV) : mapC1 x.norm = mapC1 x := by
  cases x with
  | iface t v => cases v <;> simp only [AV.norm, mapC1]
  | _ => simp only [AV.norm, mapC1]
theorem mapC_norm (cs : List AV) : mapC (AV.normL cs) = mapC cs := by
  match cs with
  | [] => rfl
  | [x] => simp only [AV.normL, mapC]; exact mapC1_norm x
  | x :: y :: r => simp only [AV.normL]; rfl
theorem mapC1_ren (f : Nat → Option Nat) (x : AV) : mapC1 (x.ren f) = mapC1 x := by
  cases x with
  | iface t v => cases v <;> simp only [AV.ren] <;> (try split) <;> simp only [mapC1]
  | ref b o => simp only [AV.ren]; split <;> simp only [mapC1]
  | aslc b o l z g => simp only [AV.ren]; split <;> simp only [mapC1]
  | map b => simp only [AV.ren]; split <;> simp only [mapC1]
  | _ => simp only [AV.ren, mapC1]
theorem mapC_ren (f : Nat → Option Nat) (cs : List AV) : mapC (AV.renL f cs) = mapC cs := by
  match cs with
  | [] => rfl
  | [x] => simp only [AV.renL, mapC]; exact mapC1_ren f x
  | x :: y :: r => simp only [AV.renL]; rfl
theorem mapC_some {cs es : List AV} (h : mapC cs = some es) : ∃ m, cs = [.iface 1000000 (.slc m es)] := by
  match cs with
  | [] => cases h
  | x :: y :: r => cases h
  | [x] =>
    simp only [mapC] at h
    cases x with
    | iface t v =>
      cases v with
      | slc m es' =>
        simp only [mapC1] at h
        split at h
        · rename_i ht; cases h; exact ⟨m, by rw [ht]⟩
        · cases h
      | _ => cases h
    | _ => cases h
theorem mapC_keep {cs cs' : List AV} (h : keepsMap cs cs' = true) (hs : ∀ m es, cs = [.iface 1000000 (.slc m es)] → mapC cs' = some es) : mapC cs' = mapC cs := by
  unfold keepsMap at h
  cases hc : mapC cs with
  | none =>
    rw [hc] at h
    simpa using h
  | some es =>
    obtain ⟨m, he⟩ := mapC_some hc
    exact hs m es he
/-- Where a box lies in a world. -/
structure BoxAt (ρ : RO) (lv : Option Lay) (μ : Lay) (w : World) (b : Nat) (cs : List AV) : Prop where
  len : cs.length ≤ (μ b).2
  blk : (μ b).2 = 0 ∨ ∃ o, w.heap[(μ b).1]? = some o ∧ ObjR ρ lv cs (μ b).2 o

/-- The world is as it was but for one block. -/
structure SameBut (B : Nat) (w w' : World) : Prop where
  os : w'.os = w.os
  tape : w'.tape = w.tape
  output : w'.output = w.output
  size : w.heap.size ≤ w'.heap.size
  block : ∀ k, k ≠ B → w'.heap[k]? = w.heap[k]?

/-- The marks that loops over functions leave: each names a block of its own in which no call is put off. -/
def Marks (ρ0 ρ : RO) (w0 : World) (ds : List Deferred) : Prop :=
  ∃ Ds : List Nat, ds = Ds.map (fun D => { target := .collected D, args := #[] }) ∧ Ds.Nodup ∧ ∀ D ∈ Ds, ρ D = some (.deferred (some [])) ∧ ρ0 D = none ∧ w0.heap.size ≤ D
theorem Marks.nil (ρ0 ρ : RO) (w0 : World) : Marks ρ0 ρ w0 [] := ⟨[], rfl, .nil, by simp⟩
theorem Marks.mono {ρ0 ρ ρ' : RO} {w0 : World} {ds : List Deferred} (h : Marks ρ0 ρ w0 ds) (hle : ρ.le ρ') : Marks ρ0 ρ' w0 ds := by
  obtain ⟨Ds, h1, h2, h3⟩ := h
  exact ⟨Ds, h1, h2, fun D hD => ⟨hle _ _ (h3 D hD).1, (h3 D hD).2⟩⟩
/-- New memory, or that of what came in. -/
def Own (n : Nat) (μ0 : Lay) (w0 : World) (k : Nat) : Prop := w0.heap.size ≤ k ∨ ∃ c, c < n ∧ (μ0 c).2 ≠ 0 ∧ k = (μ0 c).1
structure Sat (ds : List Deferred) (n : Nat) (μ0 : Lay) (ρ0 : RO) (w0 : World) (ρ : RO) (μ : Lay) (σ : St) (a : Act) (w : World) : Prop where
  dfe : a.defers = ds
  defs : Marks ρ0 ρ w0 ds
  sz : σ.sl.length = a.tmps.size
  sl : ∀ t, Rv ρ (some μ) (σ.sl.getD t .undef) (a.tmps.getD t Go.undef)
  box : ∀ b x, σ.bx.getD b none = some x → BoxAt ρ (lev μ x) μ w b x.cs
  inj : ∀ b b' cs cs', σ.box b = some cs → σ.box b' = some cs' → b ≠ b' → (μ b).2 ≠ 0 → (μ b').2 ≠ 0 → (μ b).1 ≠ (μ b').1
  sep : ∀ b cs, σ.box b = some cs → (μ b).2 ≠ 0 → ρ (μ b).1 = none
  own : ∀ b cs, σ.box b = some cs → (μ b).2 ≠ 0 → n ≤ b → Own n μ0 w0 (μ b).1
  inc : ∀ b, b < n → μ b = μ0 b
  ro : ∀ k o, ρ k = some o → w.heap[k]? = some o
  le : ρ0.le ρ
  new : ∀ k o, ρ k = some o → ρ0 k = none → Own n μ0 w0 k
  frame : ∀ k, k < w0.heap.size → (∀ b, b < n → (μ0 b).2 ≠ 0 → k ≠ (μ0 b).1) → w.heap[k]? = w0.heap[k]?
  size : w0.heap.size ≤ w.heap.size
  os : w.os = w0.os
  tape : w.tape = w0.tape
  output : w.output = w0.output

section
variable {ds : List Deferred} {n : Nat} {μ0 : Lay} {ρ0 : RO} {w0 : World} {ρ : RO} {μ : Lay} {σ : St} {a : Act} {w : World}

theorem set_getD {l : List AV} {d t : Nat} {v : AV} : (l.set d v).getD t .undef = if t = d ∧ d < l.length then v else l.getD t .undef := by
  by_cases h : t = d
  · subst h
    by_cases hl : t < l.length
    · simp [List.getD, hl]
    · simp [List.getD, hl]
  · simp [List.getD, h, List.getElem?_set_ne (Ne.symm h)]
theorem setIf_getD {l : Array Value} {d t : Nat} {v : Value} : (l.setIfInBounds d v).getD t Go.undef = if t = d ∧ d < l.size then v else l.getD t Go.undef := by
  by_cases h : t = d
  · subst h
    by_cases hl : t < l.size
    · simp [Array.getD, hl]
    · simp [Array.getD, hl]
  · simp only [h, false_and, if_false, Array.getD, Array.size_setIfInBounds]
    by_cases hs : t < l.size
    · simp [hs, Array.getElem_setIfInBounds, Ne.symm h]
    · simp [hs]

theorem Sat.put (hs : Sat ds n μ0 ρ0 w0 ρ μ σ a w) {d : Option Nat} {v : AV} {cv : Value} (hv : Rv ρ (some μ) v cv) : Sat ds n μ0 ρ0 w0 ρ μ (σ.put d v) (a.put d cv) w := by
  cases d with
  | none => exact hs
  | some d =>
    exact { hs with
      sz := by simp [St.put, Act.put, hs.sz]
      sl := fun t => by
        simp only [St.put, Act.put]
        rw [set_getD, setIf_getD, hs.sz]
        split
        · exact hv
        · exact hs.sl t }

theorem Sat.eval (hs : Sat ds n μ0 ρ0 w0 ρ μ σ a w) (x : Operand) : Rv ρ (some μ) (ev σ x) (a.eval x) := by
  cases x with
  | tmp t => exact hs.sl t
  | const v => exact Rv.ofV ..
  | global g => exact .undef ..
  | func f => exact .fn _ _ _ _ #[] #[] rfl rfl (fun j => .undef ..) (fun j => .undef ..)

theorem Sat.drew (hs : Sat ds n μ0 ρ0 w0 ρ μ σ a w) : Sat ds n μ0 ρ0 w0 ρ μ σ a w.drew :=
  { hs with box := fun b cs h => ⟨(hs.box b cs h).len, (hs.box b cs h).blk⟩ }
theorem Sat.drawn (hs : Sat ds n μ0 ρ0 w0 ρ μ σ a w) (k : Nat) : Sat ds n μ0 ρ0 w0 ρ μ σ a { w with drawn := k } :=
  { hs with box := fun b cs h => ⟨(hs.box b cs h).len, (hs.box b cs h).blk⟩ }

theorem mem_refsL {l : List AV} {b j : Nat} (h : b ∈ (l.getD j .undef).refs) : b ∈ AV.refsL l := by
  induction l generalizing j with
  | nil => simp [AV.refs] at h
  | cons x r ih =>
    simp only [AV.refsL, List.mem_append]
    cases j with
    | zero => exact .inl h
    | succ j => exact .inr (ih (by simpa using h))
/-- What names no box that lies elsewhere now. -/
theorem Rv.lay {ρ : RO} {μ μ' : Lay} {v : AV} {cv : Value} (hv : Rv ρ (some μ) v cv) (h : ∀ b ∈ v.refs, μ' b = μ b) : Rv ρ (some μ') v cv := by
  generalize hn : some μ = o at hv
  induction hv with
  | undef _ v => exact .undef _ v
  | tt _ => exact .tt _
  | ff _ => exact .ff _
  | bool _ b => exact .bool _ b
  | lit _ k n => exact .lit _ k n
  | int _ k n => exact .int _ k n
  | str _ s => exact .str _ s
  | nilp _ => exact .nilp _
  | eptr _ cs b o off c hc hh _ => exact .eptr _ cs b o off c hc hh
  | ref m b off => cases hn; rw [← h b (by simp [AV.refs])]; exact .ref μ' b off
  | nilslc _ m => exact .nilslc _ m
  | eslc _ m a hm => exact .eslc _ m a hm
  | slc _ m es b o cap k c hm hcap h2 hk hc hh _ => exact .slc _ m es b o cap k c hm hcap h2 hk hc hh
  | aslc m b off len esz ag cap hcap hr =>
    cases hn
    have hb := h b (by simp [AV.refs])
    rw [← hb] at hr ⊢
    exact .aslc μ' b off len esz ag cap hcap hr
  | aslc0 m b esz ag a => exact .aslc0 μ' b esz ag a
  | fn _ g first caps vf vc hf' hc _ _ ih1 ih2 =>
    exact .fn _ g _ _ vf vc hf' hc (fun j => ih1 j (fun b hb => h b (by simp [AV.refs, mem_refsL hb])) hn) (fun j => ih2 j (fun b hb => h b (by simp [AV.refs, mem_refsL hb])) hn)
  | nilfn _ => exact .nilfn _
  | iface _ t v v' _ ih => exact .iface _ t _ v' (ih (fun b hb => h b (by simpa [AV.refs] using hb)) hn)
  | nilif _ => exact .nilif _
  | agg _ cs vs hl _ ih => exact .agg _ _ vs hl (fun j => ih j (fun b hb => h b (by simp [AV.refs, mem_refsL hb])) hn)
  | tup _ cs vs hl _ ih => exact .tup _ _ vs hl (fun j => ih j (fun b hb => h b (by simp [AV.refs, mem_refsL hb])) hn)
  | map m b => cases hn; rw [← h b (by simp [AV.refs])]; exact .map μ' b
  | nilmap _ => exact .nilmap _
  | yld _ l => exact .yld _ l

def updL (μ : Lay) (b : Nat) (x : Nat × Nat) : Lay := fun i => if i = b then x else μ i
theorem Rv.upd {ρ : RO} {μ : Lay} {v : AV} {cv : Value} (hv : Rv ρ (some μ) v cv) {b : Nat} (h : b ∉ v.refs) (x : Nat × Nat) : Rv ρ (some (updL μ b x)) v cv :=
  hv.lay fun i hi => by unfold updL; rw [if_neg]; rintro rfl; exact h hi

theorem Rv.lev_some {ρ : RO} {μ : Lay} {x : Bx} {v : AV} {cv : Value} (hv : Rv ρ (lev μ x) v cv) : Rv ρ (some μ) v cv := by
  unfold lev at hv
  split at hv
  · exact hv.any _
  · exact hv
theorem Rv.lev_upd {ρ : RO} {μ : Lay} {x : Bx} {v : AV} {cv : Value} (hv : Rv ρ (lev μ x) v cv) {b : Nat} (h : x.arr = false → b ∉ v.refs) (y : Nat × Nat) : Rv ρ (lev (updL μ b y) x) v cv := by
  unfold lev at hv ⊢
  split at hv
  · rename_i hx; rw [if_pos hx]; exact hv
  · rename_i hx; rw [if_neg hx]; exact hv.upd (h (by simpa using hx)) y
theorem box_some {σ : St} {b : Nat} {cs : List AV} (h : σ.box b = some cs) : ∃ x, σ.bx.getD b none = some x ∧ x.cs = cs := by
  unfold St.box at h
  exact Option.map_eq_some_iff.1 h
theorem box_bx {σ : St} {b : Nat} {x : Bx} (h : σ.bx.getD b none = some x) : σ.box b = some x.cs := by simp only [St.box, h, Option.map_some]
theorem box_set {bx : List (Option Bx)} {b i : Nat} {x : Option Bx} : (bx.set b x).getD i none = if i = b ∧ b < bx.length then x else bx.getD i none := by
  by_cases h : i = b
  · subst h
    by_cases hl : i < bx.length
    · simp [List.getD, hl]
    · simp [List.getD, hl]
  · simp [List.getD, h, List.getElem?_set_ne (Ne.symm h)]

theorem noRefs_sl {b : Nat} {σ : St} (h : noRefs b σ = true) (t : Nat) : b ∉ (σ.sl.getD t .undef).refs := by
  intro hb
  simp only [noRefs, Bool.and_eq_true, Bool.not_eq_true', List.contains_eq_mem, decide_eq_false_iff_not] at h
  exact h.1 (mem_refsL hb)
theorem noRefs_bx {b : Nat} {σ : St} (h : noRefs b σ = true) {i : Nat} {x : Bx} (hx : σ.bx.getD i none = some x) : b ∉ x.refs := by
  simp only [noRefs, Bool.and_eq_true] at h
  have hmem : some x ∈ σ.bx := by
    simp only [List.getD] at hx
    cases hg : σ.bx[i]? with
    | none => simp [hg] at hx
    | some y =>
      simp only [hg, Option.getD_some] at hx
      subst hx
      exact List.mem_of_getElem? hg
  have := List.all_eq_true.1 h.2 _ hmem
  simpa using this
theorem mem_refs {x : Bx} (ha : x.arr = false) {b j : Nat} (h : b ∈ (x.cs.getD j .undef).refs) : b ∈ x.refs := by
  unfold Bx.refs
  rw [ha]
  exact mem_refsL h

/-- A box that lies in a block which no other box has: new memory, or the array of a box that is given up. -/
theorem Sat.newBox (hs : Sat ds n μ0 ρ0 w0 ρ μ σ a w) {d : Nat} {x : Bx} {p : AV} {cp : Value} {w' : World} {B κ : Nat} {o : Obj}
    (hno : noRefs (n + d) { sl := σ.sl.set d .undef, bx := σ.bx.set (n + d) none } = true) (hx : n + d ∉ x.refs) (hd : d < σ.sl.length) (hdb : n + d < σ.bx.length)
    (hw : SameBut B w w') (hB : κ = 0 ∨ (w'.heap[B]? = some o ∧ ObjR ρ (lev μ x) x.cs κ o)) (hl : x.cs.length ≤ κ)
    (hfree : ∀ b cs, b ≠ n + d → σ.box b = some cs → (μ b).2 ≠ 0 → (μ b).1 ≠ B) (hro : ρ B = none) (hown : Own n μ0 w0 B)
    (hp : Rv ρ (some (updL μ (n + d) (B, κ))) p cp) :
    Sat ds n μ0 ρ0 w0 ρ (updL μ (n + d) (B, κ)) { sl := σ.sl.set d p, bx := σ.bx.set (n + d) (some x) } (a.put (some d) cp) w' := by
  have hbox : ∀ b cs, ({ sl := σ.sl.set d p, bx := σ.bx.set (n + d) (some x) } : St).box b = some cs → (b = n + d ∧ cs = x.cs) ∨ (b ≠ n + d ∧ σ.box b = some cs) := by
    intro b cs h
    simp only [St.box] at h
    rw [box_set] at h
    by_cases hb : b = n + d
    · rw [if_pos ⟨hb, hdb⟩] at h
      exact .inl ⟨hb, by simpa using h.symm⟩
    · rw [if_neg (fun h => hb h.1)] at h
      exact .inr ⟨hb, h⟩
  have hold : ∀ b y, b ≠ n + d → σ.bx.getD b none = some y → ({ sl := σ.sl.set d .undef, bx := σ.bx.set (n + d) none } : St).bx.getD b none = some y := by
    intro b y hb h
    rw [box_set, if_neg (fun h => hb h.1)]
    exact h
  have hupd : ∀ b, b ≠ n + d → updL μ (n + d) (B, κ) b = μ b := fun b hb => by simp [updL, hb]
  have hupe : updL μ (n + d) (B, κ) (n + d) = (B, κ) := by simp [updL]
  refine { dfe := hs.dfe, defs := hs.defs, sz := ?_, sl := ?_, box := ?_, inj := ?_, sep := ?_, own := ?_, inc := ?_, ro := ?_, le := hs.le, new := hs.new, frame := ?_, size := Nat.le_trans hs.size hw.size, os := hw.os.trans hs.os, tape := hw.tape.trans hs.tape, output := hw.output.trans hs.output }
  · simp [Act.put, hs.sz]
  · intro t
    simp only [Act.put]
    rw [set_getD, setIf_getD, hs.sz]
    by_cases ht : t = d
    · rw [if_pos ⟨ht, by rw [← hs.sz]; exact hd⟩, if_pos ⟨ht, by rw [← hs.sz]; exact hd⟩]; exact hp
    · rw [if_neg (fun h => ht h.1), if_neg (fun h => ht h.1)]
      have := noRefs_sl hno t
      simp only [set_getD, ht, false_and, if_false] at this
      exact (hs.sl t).upd this _
  · intro b y h
    simp only [box_set] at h
    by_cases hb : b = n + d
    · rw [if_pos ⟨hb, hdb⟩] at h
      cases h
      subst hb
      refine ⟨by rw [hupe]; exact hl, ?_⟩
      rw [hupe]
      rcases hB with h0 | ⟨h1, h3⟩
      · exact .inl h0
      · exact .inr ⟨o, h1, h3.imp rfl fun j cv hj => hj.lev_upd (fun ha hm => hx (mem_refs ha hm)) _⟩
    · rw [if_neg (fun h => hb h.1)] at h
      obtain ⟨h1, h2⟩ := hs.box b y h
      refine ⟨by rw [hupd b hb]; exact h1, ?_⟩
      rw [hupd b hb]
      rcases h2 with h2 | ⟨o', h3, h5⟩
      · exact .inl h2
      · by_cases hk : (μ b).2 = 0
        · exact .inl hk
        · refine .inr ⟨o', ?_, h5.imp rfl fun j cv hj => hj.lev_upd (fun ha hm => noRefs_bx hno (hold b _ hb h) (mem_refs ha hm)) _⟩
          rw [hw.block _ (hfree b _ hb (box_bx h) hk)]; exact h3
  · intro b b' cs cs' h h' hne hk hk'
    rcases hbox b cs h with ⟨rfl, rfl⟩ | ⟨hb, h⟩ <;> rcases hbox b' cs' h' with ⟨rfl, rfl⟩ | ⟨hb', h'⟩
    · exact absurd rfl hne
    · rw [hupe, hupd b' hb'] at *; exact fun he => hfree b' cs' hb' h' hk' he.symm
    · rw [hupe, hupd b hb] at *; exact hfree b cs hb h hk
    · rw [hupd b hb, hupd b' hb'] at *; exact hs.inj b b' cs cs' h h' hne hk hk'
  · intro b cs h hk
    rcases hbox b cs h with ⟨rfl, rfl⟩ | ⟨hb, h⟩
    · rw [hupe]; exact hro
    · rw [hupd b hb] at *; exact hs.sep b cs h hk
  · intro b cs h hk hn
    rcases hbox b cs h with ⟨rfl, rfl⟩ | ⟨hb, h⟩
    · rw [hupe]; exact hown
    · rw [hupd b hb] at *; exact hs.own b cs h hk hn
  · intro b hb
    rw [hupd b (by omega)]; exact hs.inc b hb
  · intro k o hk
    rw [hw.block k (by rintro rfl; rw [hro] at hk; cases hk)]; exact hs.ro k o hk
  · intro k hk hb
    rw [hw.block k (by
      rintro rfl
      rcases hown with h | ⟨c, hc, h0, he⟩
      · omega
      · exact hb c hc h0 he)]; exact hs.frame k hk hb

theorem SameBut.alloc (w : World) (o : Obj) : SameBut w.heap.size w (w.alloc o) :=
  ⟨rfl, rfl, rfl, by simp, fun k hk => by
    show (w.heap.push o)[k]? = w.heap[k]?
    rw [Array.getElem?_push, if_neg hk]⟩
theorem SameBut.drawn {B : Nat} {w w' : World} (h : SameBut B w w') (k : Nat) : SameBut B { w with drawn := k } w' := ⟨h.os, h.tape, h.output, h.size, h.block⟩
theorem SameBut.refl (B : Nat) (w : World) : SameBut B w w := ⟨rfl, rfl, rfl, Nat.le_refl _, fun _ _ => rfl⟩

theorem Sat.ownA (hs : Sat ds n μ0 ρ0 w0 ρ μ σ a w) {b : Nat} {cs : List AV} (h : σ.box b = some cs) (hk : (μ b).2 ≠ 0) : Own n μ0 w0 (μ b).1 := by
  rcases Nat.lt_or_ge b n with hb | hb
  · exact .inr ⟨b, hb, by rw [← hs.inc b hb]; exact hk, by rw [hs.inc b hb]⟩
  · exact hs.own b cs h hk hb
/-- A box in new memory. -/
theorem Sat.alloc (hs : Sat ds n μ0 ρ0 w0 ρ μ σ a w) {d : Nat} {x : Bx} {p : AV} {cp : Value} {c : Array Value} {e : TypeId} {K : St → Prop}
    (h : mkBox n d x p σ K) (hl : x.cs.length ≤ c.size) (hc : RvC ρ (lev μ x) x.cs c)
    (hp : ∀ μ' : Lay, μ' (n + d) = (w.heap.size, c.size) → Rv ρ (some μ') p cp) :
    ∃ μ' σ', Sat ds n μ0 ρ0 w0 ρ μ' σ' (a.put (some d) cp) (w.alloc (.cells c e)) ∧ K σ' := by
  unfold mkBox at h
  split at h
  · rename_i hh
    simp only [Bool.and_eq_true, Bool.not_eq_true', List.contains_eq_mem, decide_eq_false_iff_not, decide_eq_true_eq] at hh
    obtain ⟨⟨⟨⟨h0, h1⟩, h2⟩, h3⟩, h4⟩ := hh
    refine ⟨_, _, hs.newBox (o := .cells c e (0, 0)) h1 h2 h3 h4 (SameBut.alloc w _) (.inr ⟨Array.getElem?_push_size, .cells (by rw [mapL_lev]; simpa using h0) rfl hc⟩) hl ?_ ?_ (.inl hs.size) (hp _ (by simp [updL])), h⟩
    · intro b cs _ hb hk he
      obtain ⟨y, hy, rfl⟩ := box_some hb
      rcases (hs.box b y hy).blk with h0 | ⟨o', h1, _⟩
      · exact hk h0
      · rw [he] at h1
        rw [Array.getElem?_eq_none (Nat.le_refl _)] at h1
        cases h1
    · cases hr : ρ w.heap.size with
      | none => rfl
      | some o =>
        have := hs.ro _ _ hr
        rw [Array.getElem?_eq_none (Nat.le_refl _)] at this
        cases this
  · exact h.elim
end
end Go.Proofs.YtblebiafhhhflaaGreat

/- Contracts: the law's merged; and what NodeReports says of it, in plain Lean. -/
import Derived.Test.YtdaanpgdjjodcaaK
namespace Go.Proofs.Ytdaanpgdjjodcaa
open Go.RowKit
/-- The function that merged folds. -/
def mstep (v : List TNdReport) (s : TSent) : List TNdReport := if (mergeS v s.Node s.R).2 = 0 then (mergeS v s.Node s.R).1 else v
def mergedS (view : List TNdReport) (l : List TSent) : List TNdReport := l.foldl mstep view
def okM (n : Nat) (s : TSent) : Bool := inB s.Node 0 (n - 1) && !(wildB s.R.Count || wildB s.R.Level || wildB s.R.Version)
def mstep' (v : List TNdReport) (s : TSent) : List TNdReport := if okM v.length s ∧ (v.getD s.Node.toNat .zero).Count < s.R.Count then v.set s.Node.toNat s.R else v
theorem mstep_eq {v : List TNdReport} {s : TSent} (h : ¬ 60 < v.length) : mstep v s = mstep' v s := by
  unfold mstep mstep' mergeS okM
  rw [if_neg h]
  by_cases h1 : inB s.Node 0 (v.length - 1) = true
  · by_cases h2 : (wildB s.R.Count || wildB s.R.Level || wildB s.R.Version) = true
    · simp [h1, h2]
    · simp only [h1, h2]
      simp
  · simp [h1]
theorem mstep_len (v : List TNdReport) (s : TSent) : (mstep' v s).length = v.length := by
  unfold mstep'; split <;> simp
theorem merged_len : ∀ (l : List TSent) (v : List TNdReport), ¬ 60 < v.length → (mergedS v l).length = v.length := by
  intro l
  induction l with
  | nil => intro v _; rfl
  | cons s l ih =>
    intro v h
    have e := mstep_eq (s := s) h
    have hl := mstep_len v s
    show (mergedS (mstep v s) l).length = v.length
    rw [e, ih _ (by rw [hl]; exact h), hl]
/-- What holds of the outcome for each node. -/
def Best (l : List TSent) (v w : List TNdReport) : Prop :=
  w.length = v.length ∧ ∀ (k : Nat) (a b : TNdReport), v[k]? = some a → w[k]? = some b →
    (b = a ∨ ∃ s ∈ l, okM v.length s = true ∧ s.Node = k ∧ b = s.R ∧ a.Count < s.R.Count) ∧ a.Count ≤ b.Count ∧ ∀ s ∈ l, okM v.length s = true → s.Node = k → s.R.Count ≤ b.Count
theorem okM_pos {n : Nat} {s : TSent} (h : okM n s = true) : 0 ≤ s.Node ∧ s.Node.toNat < n := by
  unfold okM at h
  have h := (Bool.and_eq_true _ _ ▸ h).1
  have := inB_iff.1 h
  omega
theorem best_step (v : List TNdReport) (s : TSent) : Best [s] v (mstep' v s) := by
  refine ⟨mstep_len v s, fun k a b ha hb => ?_⟩
  unfold mstep' at hb
  split at hb
  · rename_i h
    obtain ⟨h0, h1⟩ := okM_pos h.1
    rw [List.getElem?_set] at hb
    by_cases hk : s.Node.toNat = k
    · rw [if_pos hk, if_pos (by omega)] at hb
      cases hb
      have hg : v.getD s.Node.toNat .zero = a := by rw [hk]; simp [List.getD, ha]
      have hc := h.2
      rw [hg] at hc
      refine ⟨.inr ⟨s, by simp, h.1, by omega, rfl, hc⟩, by omega, fun t ht _ _ => ?_⟩
      rw [List.mem_singleton.1 ht]; exact Int.le_refl _
    · rw [if_neg hk, ha] at hb
      cases hb
      refine ⟨.inl rfl, Int.le_refl _, fun t ht _ hn => ?_⟩
      rw [List.mem_singleton.1 ht] at hn
      exact absurd (by omega) hk
  · rename_i h
    rw [ha] at hb; cases hb
    refine ⟨.inl rfl, Int.le_refl _, fun t ht ho hn => ?_⟩
    rw [List.mem_singleton.1 ht] at ho hn ⊢
    have hk : s.Node.toNat = k := by omega
    have hg : v.getD s.Node.toNat .zero = a := by rw [hk]; simp [List.getD, ha]
    rw [hg] at h
    by_cases hc : a.Count < s.R.Count
    · exact absurd ⟨ho, hc⟩ h
    · omega
theorem best_merged : ∀ (l : List TSent) (v : List TNdReport), ¬ 60 < v.length → Best l v (mergedS v l) := by
  intro l
  induction l with
  | nil =>
    intro v _
    refine ⟨rfl, fun k a b ha hb => ?_⟩
    have hb : v[k]? = some b := hb
    rw [ha] at hb; cases hb
    exact ⟨.inl rfl, Int.le_refl _, fun t ht => by cases ht⟩
  | cons s l ih =>
    intro v h
    have hs := best_step v s
    have hl := mstep_len v s
    have hm := ih (mstep' v s) (by rw [hl]; exact h)
    have e : mergedS v (s :: l) = mergedS (mstep' v s) l := by rw [← mstep_eq h]; rfl
    rw [e]
    refine ⟨by rw [hm.1, hl], fun k a c ha hc => ?_⟩
    have hk : k < v.length := (List.getElem?_eq_some_iff.1 ha).1
    obtain ⟨b, hb⟩ : ∃ b, (mstep' v s)[k]? = some b := ⟨_, List.getElem?_eq_getElem (by omega)⟩
    obtain ⟨x1, x2, x3⟩ := hs.2 k a b ha hb
    obtain ⟨y1, y2, y3⟩ := hm.2 k b c hb hc
    rw [hl] at y1 y3
    refine ⟨?_, by omega, fun t ht ho hn => ?_⟩
    · rcases y1 with rfl | ⟨t, ht, ho, hn, rfl, hc⟩
      · rcases x1 with rfl | ⟨t, ht, ho, hn, e', hc'⟩
        · exact .inl rfl
        · exact .inr ⟨t, by rw [List.mem_singleton.1 ht]; exact List.mem_cons_self .., ho, hn, e', hc'⟩
      · exact .inr ⟨t, List.mem_cons_of_mem _ ht, ho, hn, rfl, by omega⟩
    · rcases List.mem_cons.1 ht with rfl | ht
      · have := x3 t (by simp) ho hn; omega
      · exact y3 t ht ho hn
theorem best_only {l m : List TSent} {v w x : List TNdReport} (hlm : ∀ s, s ∈ l ↔ s ∈ m)
    (hno : ∀ s ∈ l, ∀ t ∈ l, s.Node = t.Node → s.R.Count = t.R.Count → s.R = t.R) (h1 : Best l v w) (h2 : Best m v x) : w = x := by
  refine List.ext_getElem? fun k => ?_
  by_cases hk : k < v.length
  · obtain ⟨a, ha⟩ : ∃ a, v[k]? = some a := ⟨_, List.getElem?_eq_getElem hk⟩
    obtain ⟨b, hb⟩ : ∃ b, w[k]? = some b := ⟨_, List.getElem?_eq_getElem (by rw [h1.1]; exact hk)⟩
    obtain ⟨c, hc⟩ : ∃ c, x[k]? = some c := ⟨_, List.getElem?_eq_getElem (by rw [h2.1]; exact hk)⟩
    obtain ⟨x1, x2, x3⟩ := h1.2 k a b ha hb
    obtain ⟨y1, y2, y3⟩ := h2.2 k a c ha hc
    rw [hb, hc]
    congr 1
    rcases x1 with rfl | ⟨s, hs, so, sn, rfl, sc⟩
    · rcases y1 with rfl | ⟨t, ht, to, tn, rfl, tc⟩
      · rfl
      · have := x3 t ((hlm t).2 ht) to tn; omega
    · rcases y1 with rfl | ⟨t, ht, to, tn, rfl, tc⟩
      · have := y3 s ((hlm s).1 hs) so sn; omega
      · have e1 := x3 t ((hlm t).2 ht) to tn
        have e2 := y3 s ((hlm s).1 hs) so sn
        exact hno s hs t ((hlm t).2 ht) (by omega) (by omega)
  · rw [List.getElem?_eq_none (by rw [h1.1]; omega), List.getElem?_eq_none (by rw [h2.1]; omega)]
theorem merged_again : ∀ (m : List TSent) (w : List TNdReport), ¬ 60 < w.length →
    (∀ (k : Nat) (b : TNdReport), w[k]? = some b → ∀ s ∈ m, okM w.length s = true → s.Node = k → s.R.Count ≤ b.Count) → mergedS w m = w := by
  intro m
  induction m with
  | nil => intro w _ _; rfl
  | cons s m ih =>
    intro w h hb
    have e : mstep w s = w := by
      rw [mstep_eq h]; unfold mstep'
      rw [if_neg]
      rintro ⟨ho, hc⟩
      obtain ⟨h0, h1⟩ := okM_pos ho
      have hg := List.getElem?_eq_getElem h1
      have := hb s.Node.toNat _ hg s (List.mem_cons_self ..) ho (by omega)
      have hg' : w.getD s.Node.toNat .zero = w[s.Node.toNat] := by simp [List.getD, hg]
      rw [hg'] at hc; omega
    show mergedS (mstep w s) m = w
    rw [e]
    exact ih w h fun k b hk t ht => hb k b hk t (List.mem_cons_of_mem _ ht)
/-- What the law says of what the code computes. -/
theorem reports_law {view : List TNdReport} {l m : List TSent} (h : ¬ 60 < view.length) (hlm : ∀ s, s ∈ l ↔ s ∈ m)
    (hno : ∀ s ∈ l, ∀ t ∈ l, s.Node = t.Node → s.R.Count = t.R.Count → s.R = t.R) :
    mergedS view l = mergedS view m ∧ mergedS (mergedS view l) m = mergedS view l ∧ (mergedS view l).length = view.length ∧
    ∀ (k : Nat) (a b : TNdReport), view[k]? = some a → (mergedS view l)[k]? = some b → a.Count ≤ b.Count := by
  have h1 := best_merged l view h
  have h2 := best_merged m view h
  have hl := merged_len l view h
  refine ⟨best_only hlm hno h1 h2, merged_again m _ (by rw [hl]; exact h) fun k b hk s hs ho hn => ?_, hl, fun k a b ha hb => (h1.2 k a b ha hb).2.1⟩
  obtain ⟨a, ha⟩ : ∃ a, view[k]? = some a := ⟨_, List.getElem?_eq_getElem (by rw [← hl]; exact (List.getElem?_eq_some_iff.1 hk).1)⟩
  rw [hl] at ho
  exact (h1.2 k a b ha hk).2.2 s ((hlm s).2 hs) ho hn
def R34 (view : List TNdReport) (l : List TSent) (S : SpecF) (Fr : FuncId → List AV → Nat → List AV → Prop) (Q : AV → List (List AV) → Prop) : Prop :=
  ∃ (I0 : Nat → List AV → Prop), (∃ m2, I0 m2 [AV.slc (3 : Nat) (List.map TNdReport.av view), AV.int IntKind.i64 (0 : Int)]) ∧ ∀ (m2 : Nat) (es3 : List AV) (n4 : Int), I0 m2 [AV.slc (3 : Nat) es3, AV.int IntKind.i64 n4] → (decide (n4 < (↑(List.map TSent.av l).length : Int)) = true → ∃ n8 n9 n10 n11 b12, ((0 : Int) ≤ n4 ∧ (5 : Nat) = (5 : Nat) ∧ (List.map TSent.av l)[n4.toNat]? = some (AV.agg [AV.int IntKind.i64 n8, AV.int IntKind.i64 n9, AV.int IntKind.i64 n10, AV.int IntKind.i64 n11, AV.bool b12])) ∧ ∃ n14 n15 n16 n17 b18, ((0 : Int) ≤ n4 ∧ (5 : Nat) = (5 : Nat) ∧ (List.map TSent.av l)[n4.toNat]? = some (AV.agg [AV.int IntKind.i64 n14, AV.int IntKind.i64 n15, AV.int IntKind.i64 n16, AV.int IntKind.i64 n17, AV.bool b18])) ∧ ∃ es20 n21, S (31 : Nat) [AV.slc (3 : Nat) es3, AV.int IntKind.i64 n8, AV.agg [AV.int IntKind.i64 n15, AV.int IntKind.i64 n16, AV.int IntKind.i64 n17, AV.bool b18]] [] (AV.tup [AV.slc (3 : Nat) es20, AV.int IntKind.i64 n21]) [] ∧ ((n21 == (0 : Int)) = true → ∃ k25, k25 < m2 ∧ I0 k25 [AV.slc (3 : Nat) es20, AV.int IntKind.i64 (IntKind.i64.wrap (n4 + (1 : Int)))]) ∧ ((n21 == (0 : Int)) = false → ∃ k25, k25 < m2 ∧ I0 k25 [AV.slc (3 : Nat) es3, AV.int IntKind.i64 (IntKind.i64.wrap (n4 + (1 : Int)))])) ∧ (decide (n4 < (↑(List.map TSent.av l).length : Int)) = false → Q (AV.slc (3 : Nat) es3) [])
theorem r34 (view : List TNdReport) (l : List TSent) (S : SpecF) (Fr : FuncId → List AV → Nat → List AV → Prop) (Q : AV → List (List AV) → Prop) : awpF Try.prog ⟨S, Fr, ⟨[], [], []⟩⟩ 0 ⟨[0, 1, 4, 5, 6, 7, 11, 30], [⟨2, [(0, .slc 3 []), (5, .int .i64 0)], [], []⟩], [], []⟩ Try.f34 [.slc 3 (List.map TNdReport.av view), .slc 3 (List.map TSent.av l)] [] Q = R34 view l S Fr Q := by kernel_rfl
theorem s34 (view : List TNdReport) (l : List TSent) (v : AV) (O : List (List AV)) (h : R34 view l (SpecOf Try.prog) (FreshOf Try.prog) (fun r O' => r = v ∧ O' = O)) : SpecOf Try.prog 34 [.slc 3 (List.map TNdReport.av view), .slc 3 (List.map TSent.av l)] [] v O :=
  spec_by (boxes := []) mixed Try.func34 Try.call34 rfl rfl rfl (Nat.le_of_ble_eq_true rfl) (r34 view l (SpecOf Try.prog) (FreshOf Try.prog) _) h
theorem mergedS_succ {view : List TNdReport} {l : List TSent} {k : Nat} {s : TSent} (h : l[k]? = some s) : mergedS view (l.take (k + 1)) = mstep (mergedS view (l.take k)) s := by
  unfold mergedS
  rw [List.take_add_one, h, List.foldl_append]; rfl
theorem c34 (view : List TNdReport) (l : List TSent) (hl : l.length ≤ 1000000) : Sp 34 [.slc 3 (List.map TNdReport.av view), .slc 3 (List.map TSent.av l)] [] (.slc 3 (List.map TNdReport.av (mergedS view l))) [] := s34 view l _ _ (by
  refine ⟨fun m vs => ∃ k : Nat, k ≤ l.length ∧ m = l.length - k ∧ vs = [.slc 3 (List.map TNdReport.av (mergedS view (l.take k))), .int .i64 k], ⟨_, 0, by omega, rfl, rfl⟩, ?_⟩
  rintro m es n ⟨k, hk, rfl, hv⟩
  cases hv
  refine ⟨fun h1 => ?_, fun h1 => ⟨?_, rfl⟩⟩
  · have h1 : k < l.length := by simpa using h1
    obtain ⟨x, hx, hx'⟩ := map_get (f := TSent.av) (l := l) (n := (k : Int)) (by omega) (by omega)
    have hs : l[k]? = some x := by simpa using hx
    have hM := c31 (mergedS view (l.take k)) x.Node x.R
    refine ⟨_, _, _, _, _, ⟨by omega, rfl, hx'⟩, _, _, _, _, _, ⟨by omega, rfl, hx'⟩, _, _, hM, fun h2 => ⟨l.length - (k + 1), by omega, k + 1, by omega, rfl, ?_⟩, fun h2 => ⟨l.length - (k + 1), by omega, k + 1, by omega, rfl, ?_⟩⟩
    · have h2 : (mergeS (mergedS view (l.take k)) x.Node x.R).2 = 0 := by simpa using h2
      rw [mergedS_succ hs, mstep, if_pos h2, wrap1 (m := l.length) (by omega) (by omega) (by omega)]; rfl
    · have h2 : ¬ (mergeS (mergedS view (l.take k)) x.Node x.R).2 = 0 := by simpa using h2
      rw [mergedS_succ hs, mstep, if_neg h2, wrap1 (m := l.length) (by omega) (by omega) (by omega)]; rfl
  · have h1 : l.length ≤ k := by simpa using h1
    rw [List.take_of_length_le h1])
end Go.Proofs.Ytdaanpgdjjodcaa

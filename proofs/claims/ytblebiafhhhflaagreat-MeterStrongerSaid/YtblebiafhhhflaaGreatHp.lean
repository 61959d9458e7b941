/- Plain laws: items in two. Contracts: what is saved. -/
import Derived.Test.YtblebiafhhhflaaGreatHm
import Derived.Test.YtblebiafhhhflaaGreatHo
namespace Go.Proofs.YtblebiafhhhflaaGreat
open Go.RowKit
theorem setCells_one {cs : List AV} {off : Nat} (v : AV) (h : off < cs.length) : setCells cs off [v] = cs.set off v := by
 unfold setCells
 rw [List.set_eq_take_append_cons_drop, if_pos h]; rfl
theorem set_at {α : Type} {f : α → AV} {g : α → List AV} {k : Nat} (hf : ∀ x, f x = .agg (g x)) (hk : ∀ x, (g x).length = k) : ∀ {l : List α} {i j : Nat} {x x' : α} {v : AV}, l[i]? = some x → j < k → g x' = (g x).set j v →
  ((l.map f).flatMap AV.cells).set (i * k + j) v = ((l.set i x').map f).flatMap AV.cells
 | [], i, j, x, x', v, hi, _, _ => by simp at hi
 | y :: r, 0, j, x, x', v, hi, hj, hx => by
  simp only [List.getElem?_cons_zero, Option.some.injEq] at hi
  subst hi
  simp only [List.map_cons, List.flatMap_cons, List.set_cons_zero, hf, AV.cells, Nat.zero_mul, Nat.zero_add]
  rw [List.set_append, if_pos (by rw [hk]; exact hj), hx]
 | y :: r, i + 1, j, x, x', v, hi, hj, hx => by
  simp only [List.getElem?_cons_succ] at hi
  simp only [List.map_cons, List.flatMap_cons, List.set_cons_succ]
  have e : (f y).cells.length = k := by rw [hf]; exact hk y
  rw [List.set_append, if_neg (by rw [e, Nat.succ_mul]; omega), e, show (i + 1) * k + j - k = i * k + j by rw [Nat.succ_mul]; omega, set_at hf hk hi hj hx]
theorem setCells_at {α : Type} {f : α → AV} {g : α → List AV} {k : Nat} (hf : ∀ x, f x = .agg (g x)) (hk : ∀ x, (g x).length = k) {l : List α} {i j : Nat} {x x' : α} {v : AV} (hi : l[i]? = some x) (hj : j < k) (hx : g x' = (g x).set j v) :
  setCells ((l.map f).flatMap AV.cells) (i * k + j) [v] = ((l.set i x').map f).flatMap AV.cells := by
 have hl : i < l.length := (List.getElem?_eq_some_iff.1 hi).1
 have e : ((l.map f).flatMap AV.cells).length = l.length * k := by
  clear hi hl
  induction l with
  | nil => simp
  | cons y r ih => simp only [List.map_cons, List.flatMap_cons, List.length_append, ih, hf, AV.cells, hk, List.length_cons, Nat.succ_mul, Nat.add_comm]
 rw [setCells_one _ (by
  rw [e]
  have : (i + 1) * k ≤ l.length * k := Nat.mul_le_mul_right _ hl
  rw [Nat.succ_mul] at this; omega)]
 exact set_at hf hk hi hj hx
theorem elemsA_map {α : Type} {f : α → AV} {g : α → List AV} {k : Nat} (hf : ∀ x, f x = .agg (g x)) (hk : ∀ x, (g x).length = k) (l : List α) : elemsA k true (l.map f) := by
 intro v hv
 obtain ⟨x, _, rfl⟩ := List.mem_map.1 hv
 exact ⟨_, hf x, hk x⟩
theorem wrap_add2 (a b : Int) : IntKind.i64.wrap (IntKind.i64.wrap a + IntKind.i64.wrap b) = IntKind.i64.wrap (a + b) := by
 simp only [IntKind.wrap_i64]; omega
theorem wrap_0add (a : Int) : IntKind.i64.wrap (0 + IntKind.i64.wrap a) = IntKind.i64.wrap a := by
 simp only [IntKind.wrap_i64]; omega
theorem taskR_items {t : TMtTask} (hv : TaskV t) {l : List TMtItem} (hl : l.length ≤ 20) (hi : ∀ x ∈ l, nameB x.Name = true ∧ itemE t x = 0) :
  (taskR { t with Items := l }).2.2 = 0 ∨ (taskR { t with Items := l }).2.2 = 5 := by
 have h := errM_twice (nm := TMtItem.Name) (rest := itemE { t with Items := l }) (l := l) hi
 unfold taskR
 rw [if_neg (by simp [hv.city]), if_neg (by simp [hv.cat]), if_neg (by have := hv.np; simp only; omega), if_neg (by simp only; omega), if_neg (by have := hv.nm; simp only; omega), if_neg (by simp [hv.pr]), if_neg (by simp [hv.me])]
 split
 ·exact h
 ·exact .inl rfl
theorem taskV_items {t : TMtTask} (_hv : TaskV t) {l : List TMtItem} (h : (taskR { t with Items := l }).2.2 = 0) : TaskV { t with Items := l } := taskV_of h
theorem energyR_ok {t : TMtTask} {item day : Int} (hn : t.Items.length ≤ 2 ^ 62) (h : (energyR t item day).2 = 0) : TaskV t ∧ 0 ≤ item ∧ item < t.Items.length ∧ daylessB day = false ∧ (energyR t item day).1 = energyE t (itemAt t item) day := by
 unfold energyR at h ⊢
 split at h
 ·rename_i h1; exact absurd h h1
 rename_i h1
 split at h
 ·simp at h
 rename_i h2
 obtain ⟨hv, h3, h4⟩ := accE_zero hn (Decidable.byContradiction h1)
 refine ⟨hv, h3, h4, by simpa using h2, ?_⟩
 rw [if_neg h1, if_neg h2]
theorem energyR_good {t : TMtTask} {item day : Int} (hn : t.Items.length ≤ 2 ^ 62) (hv : TaskV t) (h1 : 0 ≤ item) (h2 : item < t.Items.length) (h3 : daylessB day = false) : energyR t item day = (energyE t (itemAt t item) day, 0) := by
 unfold energyR
 rw [if_neg (by rw [accE_good hn hv h1 h2]; simp), if_neg (by simp [h3])]
theorem energyR_bad {t : TMtTask} {item day : Int} (_hn : t.Items.length ≤ 2 ^ 62) {e : Int} (he : (taskR t).2.2 = e) (h0 : e ≠ 0) : energyR t item day = (⟨0, 0⟩, e) := by
 have : accE t item 0 t.Items.length = e := by
  unfold accE
  rw [he, withE_bad (by simpa using h0)]
 unfold energyR
 rw [if_pos (by rw [this]; exact h0), this]
theorem energyE_val (t : TMtTask) (x : TMtItem) (day : Int) : energyE t x day = ⟨IntKind.i64.wrap (x.Count * (oneS t x day).Encl.Lo), IntKind.i64.wrap (x.Count * (oneS t x day).Encl.Hi)⟩ := by
 unfold energyE addS sum0
 rw [wrap_0add, wrap_0add]
def zzS : ByteArray := ByteArray.mk #[122, 122, 45, 116, 104, 101, 45, 111, 116, 104, 101, 114, 45, 112, 97, 114, 116]
def splitT (t : TMtTask) (i : Nat) (x : TMtItem) (k : Int) : TMtTask := { t with Items := t.Items.set i { x with Count := x.Count - k } ++ [{ x with Name := zzS, Count := k }] }
theorem itemV_count {t : TMtTask} {x : TMtItem} (h : ItemV t x) {s : ByteArray} {k : Int} (h1 : 1 ≤ k) (h2 : k ≤ 1000) : ItemV t { x with Name := s, Count := k } := ⟨h.lamp, h.prof, h.meter, ⟨h1, h2⟩, h.decl, h.until', h.from'⟩
theorem splits {t : TMtTask} {item day k : Int} (hn : t.Items.length < 20) (h : (energyR t item day).2 = 0) (hk : 1 ≤ k) (hk2 : k < (itemAt t item).Count) :
  ((energyR (splitT t item.toNat (itemAt t item) k) item day).2 = 5 ∧ (energyR (splitT t item.toNat (itemAt t item) k) t.Items.length day).2 = 5) ∨
  ((energyR (splitT t item.toNat (itemAt t item) k) item day).2 = 0 ∧ (energyR (splitT t item.toNat (itemAt t item) k) t.Items.length day).2 = 0 ∧
   (energyR t item day).1.Lo = IntKind.i64.wrap ((energyR (splitT t item.toNat (itemAt t item) k) item day).1.Lo + (energyR (splitT t item.toNat (itemAt t item) k) t.Items.length day).1.Lo) ∧
   (energyR t item day).1.Hi = IntKind.i64.wrap ((energyR (splitT t item.toNat (itemAt t item) k) item day).1.Hi + (energyR (splitT t item.toNat (itemAt t item) k) t.Items.length day).1.Hi)) := by
 obtain ⟨hv, h1, h2, h3, h4⟩ := energyR_ok (by omega) h
 obtain ⟨hg, hm, _⟩ := item_get h1 h2
 rw [h4]
 have hlen : (splitT t item.toNat (itemAt t item) k).Items.length = t.Items.length + 1 := by simp [splitT]
 have hi1 : itemAt (splitT t item.toNat (itemAt t item) k) item = { itemAt t item with Count := (itemAt t item).Count - k } := by
  generalize itemAt t item = x
  unfold itemAt splitT
  simp only
  rw [List.getElem?_append_left (by simp; omega), List.getElem?_set_self (by omega)]; rfl
 have hi2 : itemAt (splitT t item.toNat (itemAt t item) k) t.Items.length = { itemAt t item with Name := zzS, Count := k } := by
  generalize itemAt t item = x
  unfold itemAt splitT
  simp only
  rw [List.getElem?_append_right (by simp)]
  simp
 generalize itemAt t item = x at *
 have hx := hv.item hm
 have hcnt := hx.count
 have hname := ((errM_zero hv.it).1 x hm).1
 have L := hv.lens
 have hall : ∀ y ∈ t.Items.set item.toNat { x with Count := x.Count - k } ++ [{ x with Name := zzS, Count := k }], nameB y.Name = true ∧ itemE t y = 0 := by
  intro y hy
  rcases List.mem_append.1 hy with hy | hy
  ·rcases List.mem_or_eq_of_mem_set hy with hy | rfl
   ·exact (errM_zero hv.it).1 y hy
   ·exact ⟨hname, (itemV_iff L.1 L.2.1 L.2.2).2 (itemV_count hx (s := x.Name) (by omega) (by omega))⟩
  ·rw [List.mem_singleton] at hy; subst hy
   exact ⟨by kernel_rfl, (itemV_iff L.1 L.2.1 L.2.2).2 (itemV_count hx hk (by omega))⟩
 rcases taskR_items hv (l := t.Items.set item.toNat { x with Count := x.Count - k } ++ [{ x with Name := zzS, Count := k }]) (by simp; omega) hall with h5 | h5
 ·right
  have hv' : TaskV (splitT t item.toNat x k) := taskV_of h5
  rw [energyR_good (by omega) hv' h1 (by omega) h3, energyR_good (by omega) hv' (by omega) (by omega) h3, hi1, hi2]
  refine ⟨rfl, rfl, ?_, ?_⟩
  ·rw [energyE_val, energyE_val, energyE_val]
   show IntKind.i64.wrap (x.Count * (oneS t x day).Encl.Lo) = IntKind.i64.wrap (IntKind.i64.wrap ((x.Count - k) * (oneS t x day).Encl.Lo) + IntKind.i64.wrap (k * (oneS t x day).Encl.Lo))
   rw [wrap_add2, ← Int.add_mul, Int.sub_add_cancel]
  ·rw [energyE_val, energyE_val, energyE_val]
   show IntKind.i64.wrap (x.Count * (oneS t x day).Encl.Hi) = IntKind.i64.wrap (IntKind.i64.wrap ((x.Count - k) * (oneS t x day).Encl.Hi) + IntKind.i64.wrap (k * (oneS t x day).Encl.Hi))
   rw [wrap_add2, ← Int.add_mul, Int.sub_add_cancel]
 ·left
  have h5 : (taskR (splitT t item.toNat x k)).2.2 = 5 := h5
  exact ⟨by rw [energyR_bad (by omega) h5 (by decide)], by rw [energyR_bad (by omega) h5 (by decide)]⟩
end Go.Proofs.YtblebiafhhhflaaGreat
namespace Go.Proofs.YtblebiafhhhflaaGreat
open Go.RowKit
def isLampB (t : TMtTask) (n : Int) : Bool := outB n 0 (IntKind.i64.wrap ((t.Catalog.Lamps.length : Int) - 1))
def R37 (n : Int) (v0 : TMtTask) (S : SpecF) (_Fr : FreshF) (_Sq : SeqF) (Q : AV → List (List AV) → Prop) : Prop :=
 ∃ b0, S 38 [AV.int .i64 n, AV.int .i64 0, AV.int .i64 (IntKind.i64.wrap ((↑(List.map TLmLamp.av v0.Catalog.Lamps).length : Int) - (1 : Int)))] [] (AV.bool b0) [] ∧ Q (AV.bool b0) [v0.cs]
theorem r37 (n : Int) (v0 : TMtTask) (S : SpecF) (Fr : FreshF) (Sq : SeqF) (Q : AV → List (List AV) → Prop) : awpF Tryz.prog (mkS Tryz.prog S Fr Sq ⟨[], [], [], [], []⟩ 0) 1 ⟨[0, 1, 3], [], [], []⟩ Tryz.f37 [.int .i64 n, .ref 0 0] [⟨34, false, v0.cs⟩] Q = R37 n v0 S Fr Sq Q := by kernel_rfl
theorem s37 (n : Int) (v0 : TMtTask) (v : AV) (O : List (List AV)) (h : R37 n v0 (SpecOf Tryz.prog) (FreshOf Tryz.prog) (SeqOf Tryz.prog) (fun r O' => r = v ∧ O' = O)) : SpecOf Tryz.prog 37 [.int .i64 n, .ref 0 0] [v0.cs] v O :=
 spec_by (boxes := [⟨34, false, v0.cs⟩]) mixed (by exact trivial) Tryz.func37 Tryz.call37 rfl rfl rfl (Nat.le_of_ble_eq_true rfl) (r37 n v0 (SpecOf Tryz.prog) (FreshOf Tryz.prog) (SeqOf Tryz.prog) _) h
theorem c37 (n : Int) (t : TMtTask) : Sp 37 [.int .i64 n, .ref 0 0] [t.cs] (.bool (isLampB t n)) [t.cs] := s37 n t _ _ (by
 unfold R37
 rw [List.length_map]
 exact ⟨_, c38 .., rfl, rfl⟩)
def R79c (s : List Int) (f0 : TMtTask) (S : SpecF) (_Fr : FreshF) (_Sq : SeqF) (Q : AV → List (List AV) → Prop) : Prop :=
 ∃ (I0 : Nat → List AV → Prop), (∃ m2, I0 m2 [AV.int .i64 0]) ∧ ∀ (m2 : Nat) (n3 : Int), I0 m2 [AV.int .i64 n3] → (decide (n3 < (↑(List.map (AV.int IntKind.i64) s).length : Int)) = true → ∃ n7, ((0 : Int) ≤ n3 ∧ (1 : Nat) = (1 : Nat) ∧ (List.map (AV.int IntKind.i64) s)[n3.toNat]? = some (AV.int .i64 n7)) ∧ ∃ b9, S 37 [AV.int .i64 n7, AV.ref 0 0] [f0.cs] (AV.bool b9) [f0.cs] ∧ (b9 = true → Q (AV.int .i64 n3) [f0.cs]) ∧ (b9 = false → f0.cs = f0.cs ∧ ∃ k14, k14 < m2 ∧ I0 k14 [AV.int .i64 (IntKind.i64.wrap (n3 + 1))])) ∧ (decide (n3 < (↑(List.map (AV.int IntKind.i64) s).length : Int)) = false → Q (AV.int .i64 (-1 : Int)) [f0.cs])
theorem r79c (s : List Int) (f0 : TMtTask) (S : SpecF) (Fr : FreshF) (Sq : SeqF) (Q : AV → List (List AV) → Prop) : awpF Tryz.prog (mkS Tryz.prog S Fr Sq ⟨[], [], [37], [], []⟩ 0) 1 ⟨[0, 1, 4, 5, 7, 8, 9, 16], [⟨2, [(8, .int .i64 0)], [], [], [], []⟩], [], []⟩ Tryz.f79 [.slc 3 (List.map (AV.int .i64) s), .fn 37 [] [.ref 0 0]] [⟨34, false, f0.cs⟩] Q = R79c s f0 S Fr Sq Q := by kernel_rfl
theorem s79c (s : List Int) (f0 : TMtTask) (v : AV) (O : List (List AV)) (h : R79c s f0 (SpecOf Tryz.prog) (FreshOf Tryz.prog) (SeqOf Tryz.prog) (fun r O' => r = v ∧ O' = O)) : SpecOf Tryz.prog 79 [.slc 3 (List.map (AV.int .i64) s), .fn 37 [] [.ref 0 0]] [f0.cs] v O :=
 spec_by (boxes := [⟨34, false, f0.cs⟩]) mixed (by exact trivial) Tryz.func79 Tryz.call79 rfl rfl rfl (Nat.le_of_ble_eq_true rfl) (r79c s f0 (SpecOf Tryz.prog) (FreshOf Tryz.prog) (SeqOf Tryz.prog) _) h
theorem c79c (l : List Int) (hl : l.length ≤ 2 ^ 62) (t : TMtTask) : Sp 79 [.slc 3 (l.map (AV.int .i64)), .fn 37 [] [.ref 0 0]] [t.cs] (.int .i64 (findI (isLampB t) 0 l)) [t.cs] := s79c l t _ _ (by
 unfold R79c
 refine ⟨fun m vs => ∃ k : Nat, k ≤ l.length ∧ m = l.length - k ∧ vs = [.int .i64 k] ∧ findI (isLampB t) k (l.drop k) = findI (isLampB t) 0 l, ⟨_, 0, by omega, rfl, rfl, rfl⟩, ?_⟩
 rintro m n3 ⟨k, hk, rfl, hv, hf⟩
 cases hv
 rw [List.length_map]
 refine ⟨fun g => ?_, fun g => ?_⟩
 ·have hlt : k < l.length := by have := of_decide_eq_true g; omega
  obtain ⟨x, hx, hx'⟩ := map_getN (f := AV.int .i64) hlt
  rw [findI_at hx] at hf
  refine ⟨x, ⟨by omega, rfl, hx'⟩, _, c37 x t, fun g2 => ⟨?_, rfl⟩, fun g2 => ⟨rfl, l.length - (k + 1), by omega, k + 1, by omega, rfl, ?_, ?_⟩⟩
  ·rw [if_pos g2] at hf; rw [← hf]
  ·rw [i64 (by omega)]; rfl
  ·rw [if_neg (by simp [g2])] at hf; exact hf
 ·rw [List.drop_of_length_le (by have := of_decide_eq_false g; omega)] at hf
  rw [← hf]; exact ⟨rfl, rfl⟩)
def R36c (s : List Int) (f0 : TMtTask) (S : SpecF) (_Fr : FreshF) (_Sq : SeqF) (Q : AV → List (List AV) → Prop) : Prop :=
 ∃ n0, S 79 [AV.slc 3 (List.map (AV.int IntKind.i64) s), AV.fn (37 : FuncId) [] [AV.ref 0 0]] [f0.cs] (AV.int .i64 n0) [f0.cs] ∧ Q (AV.bool (decide (n0 ≥ 0))) [f0.cs]
theorem r36c (s : List Int) (f0 : TMtTask) (S : SpecF) (Fr : FreshF) (Sq : SeqF) (Q : AV → List (List AV) → Prop) : awpF Tryz.prog (mkS Tryz.prog S Fr Sq ⟨[], [], [79, 37], [], []⟩ 0) 1 ⟨[0, 1, 4], [], [], []⟩ Tryz.f36 [.slc 3 (List.map (AV.int .i64) s), .fn 37 [] [.ref 0 0]] [⟨34, false, f0.cs⟩] Q = R36c s f0 S Fr Sq Q := by kernel_rfl
theorem s36c (s : List Int) (f0 : TMtTask) (v : AV) (O : List (List AV)) (h : R36c s f0 (SpecOf Tryz.prog) (FreshOf Tryz.prog) (SeqOf Tryz.prog) (fun r O' => r = v ∧ O' = O)) : SpecOf Tryz.prog 36 [.slc 3 (List.map (AV.int .i64) s), .fn 37 [] [.ref 0 0]] [f0.cs] v O :=
 spec_by (boxes := [⟨34, false, f0.cs⟩]) mixed (by exact trivial) Tryz.func36 Tryz.call36 rfl rfl rfl (Nat.le_of_ble_eq_true rfl) (r36c s f0 (SpecOf Tryz.prog) (FreshOf Tryz.prog) (SeqOf Tryz.prog) _) h
theorem c36c (l : List Int) (hl : l.length ≤ 2 ^ 62) (t : TMtTask) : Sp 36 [.slc 3 (l.map (AV.int .i64)), .fn 37 [] [.ref 0 0]] [t.cs] (.bool (l.any (isLampB t))) [t.cs] := s36c l t _ _ ⟨_, c79c l hl t, by rw [findI_any], rfl⟩
theorem agg44 : isAggT Tryz.prog 44 = true := by kernel_rfl
theorem itemS (l : List TMtItem) : elemsOf 8 (l.map TMtItem.av) ∧ ((l.map TMtItem.av).flatMap AV.cells).length = l.length * 8 ∧ ones ((l.map TMtItem.av).flatMap AV.cells) = true ∧ chunkA 8 l.length ((l.map TMtItem.av).flatMap AV.cells) = l.map TMtItem.av := flat_map (f := TMtItem.av) (g := TMtItem.cs) (k := 8) (fun _ => rfl) (fun _ => rfl) (fun _ => rfl) l
theorem chunkA8 (l : List TMtItem) : chunks 8 true l.length (List.flatMap AV.cells (l.map TMtItem.av)) = l.map TMtItem.av := by
 have := chunkM (f := TMtItem.av) (g := TMtItem.cs) (k := 8) (fun _ => rfl) (fun _ => rfl) (fun _ => rfl) l
 rw [List.length_map, List.drop_zero] at this; exact this
def G39 (s : List TMtItem) (_S : SpecF) (_Fr : FreshF) (_Sq : SeqF) (Q : List AV → Prop) : Prop :=
 ∀ (b0 : Bool), (List.map TMtItem.av s ≠ [] → b0 = !true) → (b0 = true → Q []) ∧ (b0 = false → elemsOf (8 : Nat) (List.map TMtItem.av s) ∧ ((([] : List AV) = [] ∨ (0 : Nat) < (List.map TMtItem.av s).length) ∧ ((0 : Nat) + (List.map TMtItem.av s).length + (512 : Nat)) * 361 ≤ (1125899906842624 : Nat) ∧ elemsOf (8 : Nat) [] ∧ ones (List.flatMap AV.cells (List.map TMtItem.av s)) = true ∧ ones [] = true) ∧ (([] ++ List.flatMap AV.cells (List.map TMtItem.av s)).length = ((0 : Nat) + (List.map TMtItem.av s).length) * 8 ∧ (isAggT Tryz.prog (44 : Nat) = false → (8 : Nat) = (1 : Nat) ∧ ones ([] ++ List.flatMap AV.cells (List.map TMtItem.av s)) = true)) ∧ Q (chunks (8 : Nat) (isAggT Tryz.prog (44 : Nat)) ((0 : Nat) + (List.map TMtItem.av s).length) ([] ++ List.flatMap AV.cells (List.map TMtItem.av s))))
theorem g39 (s : List TMtItem) (S : SpecF) (Fr : FreshF) (Sq : SeqF) (Q : List AV → Prop) : awpG Tryz.prog (mkS Tryz.prog S Fr Sq ⟨[], [], [], [], []⟩ 0) ⟨[0, 2, 4], [], [], []⟩ Tryz.f39 [.slc 3 (List.map TMtItem.av s)] 8 Q = G39 s S Fr Sq Q := by kernel_rfl
theorem fr39 (s : List TMtItem) (es : List AV) (h : G39 s (SpecOf Tryz.prog) (FreshOf Tryz.prog) (SeqOf Tryz.prog) (fun r => r = es)) : FreshOf Tryz.prog 39 [.slc 3 (List.map TMtItem.av s)] 8 es :=
 fresh_by mixed (by exact trivial) Tryz.func39 Tryz.call39 (Nat.le_of_ble_eq_true rfl) (g39 s (SpecOf Tryz.prog) (FreshOf Tryz.prog) (SeqOf Tryz.prog) _) h
theorem c39 (l : List TMtItem) (hl : l.length ≤ 1000000) : FreshOf Tryz.prog 39 [.slc 3 (l.map TMtItem.av)] 8 (l.map TMtItem.av) := fr39 l _ (by
 unfold G39
 intro b hb
 have hF := itemS l
 refine ⟨fun h => ?_, fun h => ⟨hF.1, ⟨.inl rfl, by rw [List.length_map]; omega, fun v hv => (by cases hv), hF.2.2.1, rfl⟩, ⟨?_, fun h => ?_⟩, ?_⟩⟩
 ·rcases Classical.em (l = []) with rfl | hne
  ·rfl
  ·exact absurd (hb (by simpa using hne)) (by simp [h])
 ·rw [List.nil_append, Nat.zero_add, List.length_map]; exact hF.2.1
 ·rw [agg44] at h; cases h
 ·rw [List.nil_append, Nat.zero_add, List.length_map, agg44]; exact chunkA8 l)
def relamp : List TMtItem → List Int → List TMtItem
 | x :: r, n :: m => { x with Lamp := n } :: relamp r m
 | l, _ => l
theorem relamp_len : ∀ (l : List TMtItem) (m : List Int), (relamp l m).length = l.length
 | [], m => by cases m <;> rfl
 | x :: r, [] => rfl
 | x :: r, n :: m => by simp only [relamp, List.length_cons, relamp_len r m]
theorem relamp_nil (l : List TMtItem) : relamp l [] = l := by cases l <;> rfl
theorem relamp_at : ∀ {l : List TMtItem} {m : List Int} {k : Nat} {n : Int}, m[k]? = some n → k < l.length → ∃ x : TMtItem, (relamp l (m.take k))[k]? = some x ∧ relamp l (m.take (k + 1)) = (relamp l (m.take k)).set k { x with Lamp := n }
 | [], _, _, _, _, h => by simp at h
 | x :: r, [], _, _, h, _ => by simp at h
 | x :: r, a :: m, 0, n, h, _ => by
  simp only [List.getElem?_cons_zero, Option.some.injEq] at h
  subst h
  exact ⟨x, rfl, by simp [relamp, relamp_nil]⟩
 | x :: r, a :: m, k + 1, n, h, hl => by
  obtain ⟨y, h1, h2⟩ := relamp_at (l := r) (m := m) (k := k) (n := n) (by simpa using h) (by simpa using hl)
  refine ⟨y, by simpa [relamp] using h1, ?_⟩
  simp only [List.take_succ_cons, relamp, List.set_cons_succ]
  rw [h2]
theorem relamp_mem : ∀ {l : List TMtItem} {m : List Int} {x : TMtItem}, x ∈ relamp l m → ∃ y ∈ l, ∃ n, x = { y with Lamp := n }
 | [], m, x, h => by cases m <;> simp [relamp] at h
 | y :: r, [], x, h => ⟨x, h, x.Lamp, rfl⟩
 | y :: r, n :: m, x, h => by
  simp only [relamp, List.mem_cons] at h
  rcases h with rfl | h
  ·exact ⟨y, List.mem_cons_self, n, rfl⟩
  ·obtain ⟨z, h1, h2⟩ := relamp_mem h
   exact ⟨z, List.mem_cons_of_mem _ h1, h2⟩
theorem normL_append (a b : List AV) : AV.normL (a ++ b) = AV.normL a ++ AV.normL b := by rw [normL_eq, normL_eq, normL_eq, List.map_append]
theorem normI : ∀ l : List TMtItem, AV.normL ((l.map TMtItem.av).flatMap AV.cells) = (l.map TMtItem.av).flatMap AV.cells
 | [] => rfl
 | x :: r => by
  rw [List.map_cons, List.flatMap_cons, normL_append, normI r]; rfl
def lampsT (t : TMtTask) (lamps : List Int) : TMtTask := { t with Items := relamp t.Items lamps }
def savS (s : TSum) (v : TMtVerdict) : TSum := addS (addS s v.Reckoned 1) ⟨v.Metered.Hi, v.Metered.Lo⟩ (-1)
def savedE (t : TMtTask) (meter : Int) (lamps : List Int) : TEncl := ((cmpL (lampsT t lamps) meter).foldl savS sum0).Encl
def savedR (t : TMtTask) (meter : Int) (lamps : List Int) : TEncl × Int :=
 if accE t meter 0 t.Meters.length ≠ 0 then (⟨0, 0⟩, accE t meter 0 t.Meters.length) else
 if lamps.length ≠ t.Items.length then (⟨0, 0⟩, 2) else
 if lamps.any (isLampB t) then (⟨0, 0⟩, 4) else
 if (meterAt t meter).Readings.length < 2 then (⟨0, 0⟩, 4) else (savedE t meter lamps, 0)
theorem foldRange {β : Type} (f : β → TMtVerdict → β) (b : β) (g : Nat → TMtVerdict) (i : Nat) : ((List.range (i + 1)).map g).foldl f b = f (((List.range i).map g).foldl f b) (g i) := by
 rw [List.range_succ, List.map_append, List.foldl_append]; rfl
def R17 (t : TMtTask) (meter : Int) (lamps : List Int) (S : SpecF) (Fr : FreshF) (Sq : SeqF) (Q : AV → List (List AV) → Prop) : Prop :=
 ∃ n0 n1 n2, S 52 [t.av] [] (AV.tup [AV.int .i64 n0, AV.int .i64 n1, AV.int .i64 n2]) [] ∧ ∃ (J4 : List AV → Prop), (((n2 == 0) = true → ∃ b8, S 38 [AV.int .i64 meter, AV.int .i64 0, AV.int .i64 (IntKind.i64.wrap ((↑(List.map TMtMeter.av t.Meters).length : Int) - (1 : Int)))] [] (AV.bool b8) [] ∧ (b8 = true → t.cs = t.cs ∧ [AV.int .i64 meter] = [AV.int .i64 meter] ∧ TEncl.z0 = TEncl.z0 ∧ t.cs = t.cs ∧ t.cs = t.cs ∧ [AV.iface 1000000 (AV.slc 3 [])] = [AV.iface 1000000 (AV.slc 3 [])] ∧ [AV.int .i64 t.City.Lat, AV.int .i64 t.City.Lon, AV.int .i64 t.City.Zone, AV.int .i64 t.City.Altitude.Lo, AV.int .i64 t.City.Altitude.Hi, AV.slc 3 (List.map TLmTable.av t.Catalog.Tables), AV.slc 3 (List.map TLmLamp.av t.Catalog.Lamps), AV.slc 3 (List.map TMtProfile.av t.Profiles), AV.slc 3 (List.map TMtItem.av t.Items), AV.slc 3 (List.map TMtMeter.av t.Meters), AV.map ((146 : Nat) + (14 : Nat))] = [AV.int .i64 t.City.Lat, AV.int .i64 t.City.Lon, AV.int .i64 t.City.Zone, AV.int .i64 t.City.Altitude.Lo, AV.int .i64 t.City.Altitude.Hi, AV.slc 3 (List.map TLmTable.av t.Catalog.Tables), AV.slc 3 (List.map TLmLamp.av t.Catalog.Lamps), AV.slc 3 (List.map TMtProfile.av t.Profiles), AV.slc 3 (List.map TMtItem.av t.Items), AV.slc 3 (List.map TMtMeter.av t.Meters), AV.map ((146 : Nat) + (14 : Nat))] ∧ J4 [AV.int .i64 4]) ∧ (b8 = false → t.cs = t.cs ∧ [AV.int .i64 meter] = [AV.int .i64 meter] ∧ TEncl.z0 = TEncl.z0 ∧ t.cs = t.cs ∧ t.cs = t.cs ∧ [AV.iface 1000000 (AV.slc 3 [])] = [AV.iface 1000000 (AV.slc 3 [])] ∧ [AV.int .i64 t.City.Lat, AV.int .i64 t.City.Lon, AV.int .i64 t.City.Zone, AV.int .i64 t.City.Altitude.Lo, AV.int .i64 t.City.Altitude.Hi, AV.slc 3 (List.map TLmTable.av t.Catalog.Tables), AV.slc 3 (List.map TLmLamp.av t.Catalog.Lamps), AV.slc 3 (List.map TMtProfile.av t.Profiles), AV.slc 3 (List.map TMtItem.av t.Items), AV.slc 3 (List.map TMtMeter.av t.Meters), AV.map ((146 : Nat) + (14 : Nat))] = [AV.int .i64 t.City.Lat, AV.int .i64 t.City.Lon, AV.int .i64 t.City.Zone, AV.int .i64 t.City.Altitude.Lo, AV.int .i64 t.City.Altitude.Hi, AV.slc 3 (List.map TLmTable.av t.Catalog.Tables), AV.slc 3 (List.map TLmLamp.av t.Catalog.Lamps), AV.slc 3 (List.map TMtProfile.av t.Profiles), AV.slc 3 (List.map TMtItem.av t.Items), AV.slc 3 (List.map TMtMeter.av t.Meters), AV.map ((146 : Nat) + (14 : Nat))] ∧ J4 [AV.int .i64 n2])) ∧ ((n2 == 0) = false → t.cs = t.cs ∧ [AV.int .i64 meter] = [AV.int .i64 meter] ∧ TEncl.z0 = TEncl.z0 ∧ t.cs = t.cs ∧ t.cs = t.cs ∧ [AV.iface 1000000 (AV.slc 3 [])] = [AV.iface 1000000 (AV.slc 3 [])] ∧ [AV.int .i64 t.City.Lat, AV.int .i64 t.City.Lon, AV.int .i64 t.City.Zone, AV.int .i64 t.City.Altitude.Lo, AV.int .i64 t.City.Altitude.Hi, AV.slc 3 (List.map TLmTable.av t.Catalog.Tables), AV.slc 3 (List.map TLmLamp.av t.Catalog.Lamps), AV.slc 3 (List.map TMtProfile.av t.Profiles), AV.slc 3 (List.map TMtItem.av t.Items), AV.slc 3 (List.map TMtMeter.av t.Meters), AV.map ((146 : Nat) + (14 : Nat))] = [AV.int .i64 t.City.Lat, AV.int .i64 t.City.Lon, AV.int .i64 t.City.Zone, AV.int .i64 t.City.Altitude.Lo, AV.int .i64 t.City.Altitude.Hi, AV.slc 3 (List.map TLmTable.av t.Catalog.Tables), AV.slc 3 (List.map TLmLamp.av t.Catalog.Lamps), AV.slc 3 (List.map TMtProfile.av t.Profiles), AV.slc 3 (List.map TMtItem.av t.Items), AV.slc 3 (List.map TMtMeter.av t.Meters), AV.map ((146 : Nat) + (14 : Nat))] ∧ J4 [AV.int .i64 n2])) ∧ ∀ (n6 : Int), J4 [AV.int .i64 n6] → ((n6 != 0) = true → Q (AV.tup [TEncl.zero.av, AV.int .i64 n6]) []) ∧ ((n6 != 0) = false → (((↑(List.map (AV.int IntKind.i64) lamps).length : Int) != (↑(List.map TMtItem.av t.Items).length : Int)) = true → Q (AV.tup [TEncl.zero.av, AV.int .i64 2]) []) ∧ (((↑(List.map (AV.int IntKind.i64) lamps).length : Int) != (↑(List.map TMtItem.av t.Items).length : Int)) = false → ∃ b12, S 36 [AV.slc 3 (List.map (AV.int IntKind.i64) lamps), AV.fn (37 : Nat) [] [AV.ref 0 0]] [t.cs] (AV.bool b12) [t.cs] ∧ (b12 = true → Q (AV.tup [TEncl.zero.av, AV.int .i64 4]) []) ∧ (b12 = false → ∃ s16 n17 n18 n19 es20, ((0 : Int) ≤ meter ∧ (5 : Nat) = (5 : Nat) ∧ (List.map TMtMeter.av t.Meters)[meter.toNat]? = some (AV.agg [AV.str s16, AV.int .i64 n17, AV.int .i64 n18, AV.int .i64 n19, AV.slc 3 es20])) ∧ (decide ((↑es20.length : Int) < (2 : Int)) = true → Q (AV.tup [TEncl.zero.av, AV.int .i64 4]) []) ∧ (decide ((↑es20.length : Int) < (2 : Int)) = false → ∃ es24, Fr (39 : Nat) [AV.slc 3 (List.map TMtItem.av t.Items)] (8 : Nat) es24 ∧ ∃ (I26 : Nat → List AV → Prop), (∃ m28, I26 m28 [AV.int .i64 0, AV.agg (AV.normL (List.flatMap AV.cells es24))]) ∧ ∀ (m28 : Nat) (n29 : Int) (cs30 : List AV), I26 m28 [AV.int .i64 n29, AV.agg cs30] → (decide (n29 < (↑(List.map (AV.int IntKind.i64) lamps).length : Int)) = true → ∃ n34, ((0 : Int) ≤ n29 ∧ (1 : Nat) = (1 : Nat) ∧ (List.map (AV.int IntKind.i64) lamps)[n29.toNat]? = some (AV.int .i64 n34)) ∧ ((0 : Int) ≤ n29 ∧ n29 < (↑es24.length : Int) ∧ (8 : Nat) = (8 : Nat)) ∧ (0 : Nat) + n29.toNat * 8 + (1 : Nat) + (1 : Nat) ≤ (AV.agg cs30).cells.length ∧ t.cs = t.cs ∧ [AV.int .i64 meter] = [AV.int .i64 meter] ∧ TEncl.z0 = TEncl.z0 ∧ [AV.ref ((146 : Nat) + (16 : Nat)) (0 : Nat)] = [AV.ref ((146 : Nat) + (16 : Nat)) (0 : Nat)] ∧ t.cs = t.cs ∧ t.cs = t.cs ∧ [AV.iface 1000000 (AV.slc 3 [])] = [AV.iface 1000000 (AV.slc 3 [])] ∧ [AV.int .i64 t.City.Lat, AV.int .i64 t.City.Lon, AV.int .i64 t.City.Zone, AV.int .i64 t.City.Altitude.Lo, AV.int .i64 t.City.Altitude.Hi, AV.slc 3 (List.map TLmTable.av t.Catalog.Tables), AV.slc 3 (List.map TLmLamp.av t.Catalog.Lamps), AV.slc 3 (List.map TMtProfile.av t.Profiles), AV.aslc (56 : Nat) (0 : Nat) es24.length (8 : Nat) (isAggT Tryz.prog (44 : Nat)), AV.slc 3 (List.map TMtMeter.av t.Meters), AV.map ((146 : Nat) + (14 : Nat))] = [AV.int .i64 t.City.Lat, AV.int .i64 t.City.Lon, AV.int .i64 t.City.Zone, AV.int .i64 t.City.Altitude.Lo, AV.int .i64 t.City.Altitude.Hi, AV.slc 3 (List.map TLmTable.av t.Catalog.Tables), AV.slc 3 (List.map TLmLamp.av t.Catalog.Lamps), AV.slc 3 (List.map TMtProfile.av t.Profiles), AV.aslc (56 : Nat) (0 : Nat) es24.length (8 : Nat) (isAggT Tryz.prog (44 : Nat)), AV.slc 3 (List.map TMtMeter.av t.Meters), AV.map ((146 : Nat) + (14 : Nat))] ∧ ∃ k46, k46 < m28 ∧ I26 k46 [AV.int .i64 (IntKind.i64.wrap (n29 + 1)), AV.agg (AV.normL (setCells (AV.agg cs30).cells ((0 : Nat) + n29.toNat * 8 + (1 : Nat)) [AV.int .i64 n34]))]) ∧ (decide (n29 < (↑(List.map (AV.int IntKind.i64) lamps).length : Int)) = false → (0 : Nat) + es24.length * 8 ≤ (AV.agg cs30).cells.length ∧ ∃ es35, (es35.length = es24.length ∧ List.flatMap AV.cells es35 = List.drop (0 : Nat) (AV.agg cs30).cells ∧ elemsA (8 : Nat) (isAggT Tryz.prog (44 : Nat)) es35) ∧ ∃ s37 n38 n39 n40 es41, ((0 : Int) ≤ meter ∧ (5 : Nat) = (5 : Nat) ∧ (List.map TMtMeter.av t.Meters)[meter.toNat]? = some (AV.agg [AV.str s37, AV.int .i64 n38, AV.int .i64 n39, AV.int .i64 n40, AV.slc 3 es41])) ∧ ∃ s43 n44 n45 n46 es47, S 40 [AV.agg [AV.str s37, AV.int .i64 n38, AV.int .i64 n39, AV.int .i64 n40, AV.slc 3 es41]] [] (AV.fn (80 : FuncId) [] [AV.eptr [AV.str s43, AV.int .i64 n44, AV.int .i64 n45, AV.int .i64 n46, AV.slc 3 es47] (0 : Nat)]) [] ∧ ∃ xs49, Sq (80 : FuncId) [AV.eptr [AV.str s43, AV.int .i64 n44, AV.int .i64 n45, AV.int .i64 n46, AV.slc 3 es47] (0 : Nat)] [] xs49 ∧ (∀ (x52 : List AV), x52 ∈ xs49 → fitL [AV.int .i64 0, AV.agg [AV.str default, AV.int .i64 0, AV.int .i64 0, AV.int .i64 0, AV.slc 3 [], AV.int .i64 0, AV.int .i64 0, AV.int .i64 0, AV.int .i64 0]] x52 = true ∧ AV.treeL x52 = true) ∧ ∃ (I52 : Nat → List AV → Prop), I52 (0 : Nat) [TEncl.zero.av, AV.agg [AV.iface 1000000 (AV.slc 3 [])]] ∧ (∀ (i55 : Nat) (n56 : Int) (s57 : ByteArray) (n58 n59 n60 : Int) (es61 : List AV) (n62 n63 n64 n65 : Int), xs49[i55]? = some [AV.int .i64 n56, AV.agg [AV.str s57, AV.int .i64 n58, AV.int .i64 n59, AV.int .i64 n60, AV.slc 3 es61, AV.int .i64 n62, AV.int .i64 n63, AV.int .i64 n64, AV.int .i64 n65]] → ∀ (n67 n68 : Int) (es69 : List AV), I52 i55 [AV.agg [AV.int .i64 n67, AV.int .i64 n68], AV.agg [AV.iface 1000000 (AV.slc 3 es69)]] → ∃ n71 n72 n73 n74 n75 es76, S 41 [AV.ref 0 0, AV.int .i64 meter, AV.agg [AV.str s57, AV.int .i64 n58, AV.int .i64 n59, AV.int .i64 n60, AV.slc 3 es61, AV.int .i64 n62, AV.int .i64 n63, AV.int .i64 n64, AV.int .i64 n65]] [[AV.int .i64 t.City.Lat, AV.int .i64 t.City.Lon, AV.int .i64 t.City.Zone, AV.int .i64 t.City.Altitude.Lo, AV.int .i64 t.City.Altitude.Hi, AV.slc 3 (List.map TLmTable.av t.Catalog.Tables), AV.slc 3 (List.map TLmLamp.av t.Catalog.Lamps), AV.slc 3 (List.map TMtProfile.av t.Profiles), AV.slc 3 es35, AV.slc 3 (List.map TMtMeter.av t.Meters), AV.map (1 : Nat)], [AV.iface 1000000 (AV.slc 3 es69)]] (AV.agg [AV.int .i64 n71, AV.int .i64 n72, AV.int .i64 n73, AV.int .i64 n74, AV.int .i64 n75]) [[AV.int .i64 t.City.Lat, AV.int .i64 t.City.Lon, AV.int .i64 t.City.Zone, AV.int .i64 t.City.Altitude.Lo, AV.int .i64 t.City.Altitude.Hi, AV.slc 3 (List.map TLmTable.av t.Catalog.Tables), AV.slc 3 (List.map TLmLamp.av t.Catalog.Lamps), AV.slc 3 (List.map TMtProfile.av t.Profiles), AV.slc 3 es35, AV.slc 3 (List.map TMtMeter.av t.Meters), AV.map (1 : Nat)], [AV.iface 1000000 (AV.slc 3 es76)]] ∧ ∃ n78 n79, S 27 [AV.ref 0 0, AV.agg [AV.int .i64 n74, AV.int .i64 n75], AV.int .i64 1] [[AV.int .i64 n67, AV.int .i64 n68]] (AV.tup []) [[AV.int .i64 n78, AV.int .i64 n79]] ∧ ∃ n81 n82, S 27 [AV.ref 0 0, AV.agg [AV.int .i64 n73, AV.int .i64 n72], AV.int .i64 (-1 : Int)] [[AV.int .i64 n78, AV.int .i64 n79]] (AV.tup []) [[AV.int .i64 n81, AV.int .i64 n82]] ∧ t.cs = t.cs ∧ [AV.int .i64 meter] = [AV.int .i64 meter] ∧ TEncl.z0 = TEncl.z0 ∧ [AV.ref ((146 : Nat) + (16 : Nat)) (0 : Nat)] = [AV.ref ((146 : Nat) + (16 : Nat)) (0 : Nat)] ∧ t.cs = t.cs ∧ t.cs = t.cs ∧ [AV.int .i64 t.City.Lat, AV.int .i64 t.City.Lon, AV.int .i64 t.City.Zone, AV.int .i64 t.City.Altitude.Lo, AV.int .i64 t.City.Altitude.Hi, AV.slc 3 (List.map TLmTable.av t.Catalog.Tables), AV.slc 3 (List.map TLmLamp.av t.Catalog.Lamps), AV.slc 3 (List.map TMtProfile.av t.Profiles), AV.slc 3 es35, AV.slc 3 (List.map TMtMeter.av t.Meters), AV.map ((146 : Nat) + (14 : Nat))] = [AV.int .i64 t.City.Lat, AV.int .i64 t.City.Lon, AV.int .i64 t.City.Zone, AV.int .i64 t.City.Altitude.Lo, AV.int .i64 t.City.Altitude.Hi, AV.slc 3 (List.map TLmTable.av t.Catalog.Tables), AV.slc 3 (List.map TLmLamp.av t.Catalog.Lamps), AV.slc 3 (List.map TMtProfile.av t.Profiles), AV.slc 3 es35, AV.slc 3 (List.map TMtMeter.av t.Meters), AV.map ((146 : Nat) + (14 : Nat))] ∧ I52 (i55 + 1) [AV.agg [AV.int .i64 n81, AV.int .i64 n82], AV.agg [AV.iface 1000000 (AV.slc 3 es76)]]) ∧ ∀ (n55 n56 : Int) (es57 : List AV), I52 xs49.length [AV.agg [AV.int .i64 n55, AV.int .i64 n56], AV.agg [AV.iface 1000000 (AV.slc 3 es57)]] → Q (AV.tup [AV.agg [AV.int .i64 n55, AV.int .i64 n56], AV.int .i64 0]) [])))))
theorem r17 (t : TMtTask) (meter : Int) (lamps : List Int) (S : SpecF) (Fr : FreshF) (Sq : SeqF) (Q : AV → List (List AV) → Prop) : awpF Tryz.prog (mkS Tryz.prog S Fr Sq ⟨[39], [(40, [.fn 80 [] [.eptr [.str default, .int .i64 0, .int .i64 0, .int .i64 0, .slc 3 []] 0]])], [36, 1000041, 999000041], [(25, ⟨[0, 1, 2, 3, 4, 8, 9, 10, 11, 25], [], [⟨4, [(11, .int .i64 0)], [], [], [], []⟩], []⟩), (62, ⟨[0, 1, 2, 3, 6], [], [], []⟩)], []⟩ 4) 0 ⟨[0, 1, 2, 3, 4, 6, 7, 8, 9, 10, 11, 12, 14, 15, 25, 30, 38, 60, 61, 62, 63, 82, 83, 84], [⟨10, [(62, .int .i64 0)], [], [(56, .tup [])], [], []⟩, ⟨17, [], [], [(12, .agg [.int .i64 0, .int .i64 0]), (3000008, .agg [.iface 1000000 (.slc 3 [])])], [], [.int .i64 0, .agg [.str default, .int .i64 0, .int .i64 0, .int .i64 0, .slc 3 [], .int .i64 0, .int .i64 0, .int .i64 0, .int .i64 0]]⟩], [], [(14, 4008000008)]⟩ Tryz.f17 [t.av, .int .i64 meter, .slc 3 (List.map (AV.int .i64) lamps)] [] Q = R17 t meter lamps S Fr Sq Q := by kernel_rfl
theorem s17 (t : TMtTask) (meter : Int) (lamps : List Int) (v : AV) (O : List (List AV)) (h : R17 t meter lamps (SpecOf Tryz.prog) (FreshOf Tryz.prog) (SeqOf Tryz.prog) (fun r O' => r = v ∧ O' = O)) : SpecOf Tryz.prog 17 [t.av, .int .i64 meter, .slc 3 (List.map (AV.int .i64) lamps)] [] v O :=
 spec_by (boxes := []) mixed (by exact ⟨Tryz.call25, ⟨Tryz.call62, trivial⟩⟩) Tryz.func17 Tryz.call17 rfl rfl rfl (Nat.le_of_ble_eq_true rfl) (r17 t meter lamps (SpecOf Tryz.prog) (FreshOf Tryz.prog) (SeqOf Tryz.prog) _) h
theorem c17 (t : TMtTask) (ht : TaskOK t) (hn2 : t.Meters.length ≤ 2 ^ 62) (meter : Int) (lamps : List Int) (hn3 : lamps.length ≤ 2 ^ 62) : Sp 17 [t.av, .int .i64 meter, .slc 3 (lamps.map (AV.int .i64))] [] (.tup [(savedR t meter lamps).1.av, .int .i64 (savedR t meter lamps).2]) [] := s17 t meter lamps _ _ (by
 unfold R17
 simp only [List.length_map]
 refine ⟨_, _, _, c52 t ht, fun vs => vs = [.int .i64 (accE t meter 0 t.Meters.length)], ⟨fun h => ⟨_, c38 .., fun h2 => ⟨(by trivial), (by trivial), (by trivial), (by trivial), (by trivial), (by trivial), (by trivial), ?_⟩, fun h2 => ⟨(by trivial), (by trivial), (by trivial), (by trivial), (by trivial), (by trivial), (by trivial), ?_⟩⟩, fun h => ⟨(by trivial), (by trivial), (by trivial), (by trivial), (by trivial), (by trivial), (by trivial), ?_⟩⟩, ?_⟩
 ·unfold accE; rw [withE_out h h2]
 ·unfold accE; rw [withE_in h2]
 ·unfold accE; rw [withE_bad h]
 intro n6 hv
 cases hv
 unfold savedR
 refine ⟨fun h => ⟨?_, (by trivial)⟩, fun h => ?_⟩
 ·rw [if_pos (by simpa using h)]; rfl
 have h : accE t meter 0 t.Meters.length = 0 := by simpa using h
 obtain ⟨hv, h0, h1⟩ := accE_zero hn2 h
 obtain ⟨_, hm, hx⟩ := meter_get h0 h1
 have hmv := hv.meter hm
 rw [if_neg (by simp [h])]
 refine ⟨fun h2 => ⟨?_, (by trivial)⟩, fun h2 => ?_⟩
 ·have h2 : (lamps.length : Int) ≠ t.Items.length := by simpa using h2
  rw [if_pos (by omega)]; rfl
 have h2' : (lamps.length : Int) = t.Items.length := by simpa using h2
 have h2 : lamps.length = t.Items.length := by omega
 rw [if_neg (by simp [h2])]
 refine ⟨_, c36c lamps hn3 t, fun h3 => ⟨?_, (by trivial)⟩, fun h3 => ?_⟩
 ·rw [if_pos h3]; rfl
 rw [if_neg (by simp [h3])]
 unfold savedE
 have hma : meterAt (lampsT t lamps) meter = meterAt t meter := rfl
 have hstep : ∀ i, _ := fun i => foldRange savS sum0 (fun j => cmpV (lampsT t lamps) meter (pairAt (meterAt t meter) j)) i
 unfold cmpL
 rw [hma]
 generalize meterAt t meter = m at *
 have hlen := hmv.number
 refine ⟨m.Name, m.Step, m.Modulus, m.Error, List.map TMtReading.av m.Readings, ⟨h0, (by trivial), hx⟩, ?_⟩
 rw [List.length_map]
 refine ⟨fun h4 => ⟨?_, (by trivial)⟩, fun h4 => ?_⟩
 ·have h4 := of_decide_eq_true h4
  rw [if_pos (by omega)]; rfl
 have h4 := of_decide_eq_false h4
 rw [if_neg (by omega)]
 have hni := hv.ni
 refine ⟨_, c39 t.Items (by omega), fun m vs => ∃ k : Nat, k ≤ lamps.length ∧ m = lamps.length - k ∧ vs = [.int .i64 k, .agg (((relamp t.Items (lamps.take k)).map TMtItem.av).flatMap AV.cells)], ⟨_, 0, by omega, rfl, ?_⟩, ?_⟩
 ·rw [normI, List.take_zero, relamp_nil]; rfl
 rintro m2 n29 cs30 ⟨k, hk, rfl, hvk⟩
 have hF := itemS (relamp t.Items (lamps.take k))
 rw [relamp_len] at hF
 cases hvk
 rw [List.length_map]
 refine ⟨fun g => ?_, fun g => ?_⟩
 ·have hlt : k < lamps.length := by have := of_decide_eq_true g; omega
  obtain ⟨n, hn, hn'⟩ := map_getN (f := AV.int .i64) hlt
  obtain ⟨x, hx1, hx2⟩ := relamp_at (l := t.Items) hn (by omega)
  have hset := setCells_at (f := TMtItem.av) (g := TMtItem.cs) (k := 8) (fun _ => rfl) (fun _ => rfl) (j := 1) (x' := { x with Lamp := n }) (v := .int .i64 n) hx1 (by decide) rfl
  refine ⟨n, ⟨by omega, (by trivial), hn'⟩, ⟨by omega, by omega, (by trivial)⟩, ?_, (by trivial), (by trivial), (by trivial), (by trivial), (by trivial), (by trivial), (by trivial), (by trivial), lamps.length - (k + 1), by omega, k + 1, by omega, rfl, ?_⟩
  ·simp only [AV.cells]; rw [hF.2.1, Int.toNat_natCast]; omega
  ·simp only [AV.cells]
   rw [hx2, Int.toNat_natCast, Nat.zero_add, hset, normI, i64 (by omega)]; rfl
 ·have hge : lamps.length ≤ k := by have := of_decide_eq_false g; omega
  rw [List.take_of_length_le hge] at hF ⊢
  have hI : ∀ x ∈ (lampsT t lamps).Items, ItemOK (lampsT t lamps) x := fun x hx => by
   obtain ⟨y, hy, n, rfl⟩ := relamp_mem hx
   have := hv.itemOK ht.cat hy
   exact ⟨this.cat, this.prof, this.steps⟩
  refine ⟨by simp only [AV.cells]; rw [hF.2.1]; omega, (relamp t.Items lamps).map TMtItem.av, ⟨by rw [List.length_map, relamp_len], by rw [List.drop_zero]; rfl, ?_⟩, m.Name, m.Step, m.Modulus, m.Error, List.map TMtReading.av m.Readings, ⟨h0, (by trivial), hx⟩, m.Name, m.Step, m.Modulus, m.Error, List.map TMtReading.av m.Readings, c40 m, _, sqPairs m (by omega), fun v hv => ?_, fun i vs => ∃ L : List Int, L.Nodup ∧ vs = [(((List.range i).map fun j => cmpV (lampsT t lamps) meter (pairAt m j)).foldl savS sum0).av, .agg (memA t.City L)], ⟨[], List.nodup_nil, rfl⟩, ?_, ?_⟩
  ·rw [agg44]; exact elemsA_map (f := TMtItem.av) (g := TMtItem.cs) (fun _ => rfl) (fun _ => rfl) _
  ·obtain ⟨i, p, _, rfl⟩ := pairL_fit v hv
   exact ⟨rfl, rfl⟩
  ·rintro i n56 s57 n58 n59 n60 es61 n62 n63 n64 n65 hi n67 n68 es69 ⟨L, hL, hv2⟩
   obtain ⟨hil, he⟩ := pairL_atP hi
   have hp := pairAt_v hmv hil
   have hst := hstep i
   generalize hql : ((List.range i).map fun j => cmpV (lampsT t lamps) meter (pairAt m j)).foldl savS sum0 = s at *
   generalize pairAt m i = p at *
   cases he
   cases hv2
   refine ⟨_, _, _, _, _, _, c41 (lampsT t lamps) hI (by unfold lampsT; rw [relamp_len]; omega) meter p hp.meter (by rw [hp.days]; have := hp.gap; omega) L hL, _, _, c27 s _ 1, _, _, c27 _ ⟨_, _⟩ (-1), (by trivial), (by trivial), (by trivial), (by trivial), (by trivial), (by trivial), (by trivial), memR (lampsT t lamps) meter p.a.Day (daysP p).toNat L, memI_nodup _ hL, ?_⟩
   rw [hst]; rfl
  ·rintro n55 n56 es57 ⟨L, hL, hv2⟩
   rw [pairL_len] at hv2
   generalize ((List.range (m.Readings.length - 1)).map fun j => cmpV (lampsT t lamps) meter (pairAt m j)).foldl savS sum0 = s at *
   cases hv2
   exact ⟨rfl, (by trivial)⟩)
end Go.Proofs.YtblebiafhhhflaaGreat

/- Plain laws: items in two. -/
import Derived.Test.YtblebiafhhhflaaGreatHm
namespace Go.Proofs.YtblebiafhhhflaaGreat
open Go.RowKit
theorem setCells_one {cs : List AV} {off : Nat} (v : AV) (h : off < cs.length) : setCells cs off [v] = cs.set off v := by
 unfold setCells
 rw [List.set_eq_take_append_cons_drop, if_pos h]; rfl
theorem set_at {α : Type} {f : α → AV} {g : α → List AV} {k : Nat} (hf : ∀ x, f x = .agg (g x)) (hk : ∀ x, (g x).length = k) : ∀ {l : List α} {i j : Nat} {x x' : α} {v : AV}, l[i]? = some x → j < k → g x' = (g x).set j v →
  ((l.map f).flatMap AV.cells).set (i * k + j) v = ((l.set i x').map f).flatMap AV.cells
 | [], i, j, x, x', v, hi, _, _ => by simp at hi
 | y :: r, 0, j, x, x', v, hi, hj, hx => by
  simp only [List.getElem?_cons_zero, Option.some.injEq] at hi
  subst hi
  simp only [List.map_cons, List.flatMap_cons, List.set_cons_zero, hf, AV.cells, Nat.zero_mul, Nat.zero_add]
  rw [List.set_append, if_pos (by rw [hk]; exact hj), hx]
 | y :: r, i + 1, j, x, x', v, hi, hj, hx => by
  simp only [List.getElem?_cons_succ] at hi
  simp only [List.map_cons, List.flatMap_cons, List.set_cons_succ]
  have e : (f y).cells.length = k := by rw [hf]; exact hk y
  rw [List.set_append, if_neg (by rw [e, Nat.succ_mul]; omega), e, show (i + 1) * k + j - k = i * k + j by rw [Nat.succ_mul]; omega, set_at hf hk hi hj hx]
theorem setCells_at {α : Type} {f : α → AV} {g : α → List AV} {k : Nat} (hf : ∀ x, f x = .agg (g x)) (hk : ∀ x, (g x).length = k) {l : List α} {i j : Nat} {x x' : α} {v : AV} (hi : l[i]? = some x) (hj : j < k) (hx : g x' = (g x).set j v) :
  setCells ((l.map f).flatMap AV.cells) (i * k + j) [v] = ((l.set i x').map f).flatMap AV.cells := by
 have hl : i < l.length := (List.getElem?_eq_some_iff.1 hi).1
 have e : ((l.map f).flatMap AV.cells).length = l.length * k := by
  clear hi hl
  induction l with
  | nil => simp
  | cons y r ih => simp only [List.map_cons, List.flatMap_cons, List.length_append, ih, hf, AV.cells, hk, List.length_cons, Nat.succ_mul, Nat.add_comm]
 rw [setCells_one _ (by
  rw [e]
  have : (i + 1) * k ≤ l.length * k := Nat.mul_le_mul_right _ hl
  rw [Nat.succ_mul] at this; omega)]
 exact set_at hf hk hi hj hx
theorem elemsA_map {α : Type} {f : α → AV} {g : α → List AV} {k : Nat} (hf : ∀ x, f x = .agg (g x)) (hk : ∀ x, (g x).length = k) (l : List α) : elemsA k true (l.map f) := by
 intro v hv
 obtain ⟨x, _, rfl⟩ := List.mem_map.1 hv
 exact ⟨_, hf x, hk x⟩
theorem wrap_add2 (a b : Int) : IntKind.i64.wrap (IntKind.i64.wrap a + IntKind.i64.wrap b) = IntKind.i64.wrap (a + b) := by
 simp only [IntKind.wrap_i64]; omega
theorem wrap_0add (a : Int) : IntKind.i64.wrap (0 + IntKind.i64.wrap a) = IntKind.i64.wrap a := by
 simp only [IntKind.wrap_i64]; omega
theorem taskR_items {t : TMtTask} (hv : TaskV t) {l : List TMtItem} (hl : l.length ≤ 20) (hi : ∀ x ∈ l, nameB x.Name = true ∧ itemE t x = 0) :
  (taskR { t with Items := l }).2.2 = 0 ∨ (taskR { t with Items := l }).2.2 = 5 := by
 have h := errM_twice (nm := TMtItem.Name) (rest := itemE { t with Items := l }) (l := l) hi
 unfold taskR
 rw [if_neg (by simp [hv.city]), if_neg (by simp [hv.cat]), if_neg (by have := hv.np; simp only; omega), if_neg (by simp only; omega), if_neg (by have := hv.nm; simp only; omega), if_neg (by simp [hv.pr]), if_neg (by simp [hv.me])]
 split
 ·exact h
 ·exact .inl rfl
theorem taskV_items {t : TMtTask} (_hv : TaskV t) {l : List TMtItem} (h : (taskR { t with Items := l }).2.2 = 0) : TaskV { t with Items := l } := taskV_of h
theorem energyR_ok {t : TMtTask} {item day : Int} (hn : t.Items.length ≤ 2 ^ 62) (h : (energyR t item day).2 = 0) : TaskV t ∧ 0 ≤ item ∧ item < t.Items.length ∧ daylessB day = false ∧ (energyR t item day).1 = energyE t (itemAt t item) day := by
 unfold energyR at h ⊢
 split at h
 ·rename_i h1; exact absurd h h1
 rename_i h1
 split at h
 ·simp at h
 rename_i h2
 obtain ⟨hv, h3, h4⟩ := accE_zero hn (Decidable.byContradiction h1)
 refine ⟨hv, h3, h4, by simpa using h2, ?_⟩
 rw [if_neg h1, if_neg h2]
theorem energyR_good {t : TMtTask} {item day : Int} (hn : t.Items.length ≤ 2 ^ 62) (hv : TaskV t) (h1 : 0 ≤ item) (h2 : item < t.Items.length) (h3 : daylessB day = false) : energyR t item day = (energyE t (itemAt t item) day, 0) := by
 unfold energyR
 rw [if_neg (by rw [accE_good hn hv h1 h2]; simp), if_neg (by simp [h3])]
theorem energyR_bad {t : TMtTask} {item day : Int} (_hn : t.Items.length ≤ 2 ^ 62) {e : Int} (he : (taskR t).2.2 = e) (h0 : e ≠ 0) : energyR t item day = (⟨0, 0⟩, e) := by
 have : accE t item 0 t.Items.length = e := by
  unfold accE
  rw [he, withE_bad (by simpa using h0)]
 unfold energyR
 rw [if_pos (by rw [this]; exact h0), this]
theorem energyE_val (t : TMtTask) (x : TMtItem) (day : Int) : energyE t x day = ⟨IntKind.i64.wrap (x.Count * (oneS t x day).Encl.Lo), IntKind.i64.wrap (x.Count * (oneS t x day).Encl.Hi)⟩ := by
 unfold energyE addS sum0
 rw [wrap_0add, wrap_0add]
def zzS : ByteArray := ByteArray.mk #[122, 122, 45, 116, 104, 101, 45, 111, 116, 104, 101, 114, 45, 112, 97, 114, 116]
def splitT (t : TMtTask) (i : Nat) (x : TMtItem) (k : Int) : TMtTask := { t with Items := t.Items.set i { x with Count := x.Count - k } ++ [{ x with Name := zzS, Count := k }] }
theorem itemV_count {t : TMtTask} {x : TMtItem} (h : ItemV t x) {s : ByteArray} {k : Int} (h1 : 1 ≤ k) (h2 : k ≤ 1000) : ItemV t { x with Name := s, Count := k } := ⟨h.lamp, h.prof, h.meter, ⟨h1, h2⟩, h.decl, h.until', h.from'⟩
theorem splits {t : TMtTask} {item day k : Int} (hn : t.Items.length < 20) (h : (energyR t item day).2 = 0) (hk : 1 ≤ k) (hk2 : k < (itemAt t item).Count) :
  ((energyR (splitT t item.toNat (itemAt t item) k) item day).2 = 5 ∧ (energyR (splitT t item.toNat (itemAt t item) k) t.Items.length day).2 = 5) ∨
  ((energyR (splitT t item.toNat (itemAt t item) k) item day).2 = 0 ∧ (energyR (splitT t item.toNat (itemAt t item) k) t.Items.length day).2 = 0 ∧
   (energyR t item day).1.Lo = IntKind.i64.wrap ((energyR (splitT t item.toNat (itemAt t item) k) item day).1.Lo + (energyR (splitT t item.toNat (itemAt t item) k) t.Items.length day).1.Lo) ∧
   (energyR t item day).1.Hi = IntKind.i64.wrap ((energyR (splitT t item.toNat (itemAt t item) k) item day).1.Hi + (energyR (splitT t item.toNat (itemAt t item) k) t.Items.length day).1.Hi)) := by
 obtain ⟨hv, h1, h2, h3, h4⟩ := energyR_ok (by omega) h
 obtain ⟨hg, hm, _⟩ := item_get h1 h2
 rw [h4]
 have hlen : (splitT t item.toNat (itemAt t item) k).Items.length = t.Items.length + 1 := by simp [splitT]
 have hi1 : itemAt (splitT t item.toNat (itemAt t item) k) item = { itemAt t item with Count := (itemAt t item).Count - k } := by
  generalize itemAt t item = x
  unfold itemAt splitT
  simp only
  rw [List.getElem?_append_left (by simp; omega), List.getElem?_set_self (by omega)]; rfl
 have hi2 : itemAt (splitT t item.toNat (itemAt t item) k) t.Items.length = { itemAt t item with Name := zzS, Count := k } := by
  generalize itemAt t item = x
  unfold itemAt splitT
  simp only
  rw [List.getElem?_append_right (by simp)]
  simp
 generalize itemAt t item = x at *
 have hx := hv.item hm
 have hcnt := hx.count
 have hname := ((errM_zero hv.it).1 x hm).1
 have L := hv.lens
 have hall : ∀ y ∈ t.Items.set item.toNat { x with Count := x.Count - k } ++ [{ x with Name := zzS, Count := k }], nameB y.Name = true ∧ itemE t y = 0 := by
  intro y hy
  rcases List.mem_append.1 hy with hy | hy
  ·rcases List.mem_or_eq_of_mem_set hy with hy | rfl
   ·exact (errM_zero hv.it).1 y hy
   ·exact ⟨hname, (itemV_iff L.1 L.2.1 L.2.2).2 (itemV_count hx (s := x.Name) (by omega) (by omega))⟩
  ·rw [List.mem_singleton] at hy; subst hy
   exact ⟨by kernel_rfl, (itemV_iff L.1 L.2.1 L.2.2).2 (itemV_count hx hk (by omega))⟩
 rcases taskR_items hv (l := t.Items.set item.toNat { x with Count := x.Count - k } ++ [{ x with Name := zzS, Count := k }]) (by simp; omega) hall with h5 | h5
 ·right
  have hv' : TaskV (splitT t item.toNat x k) := taskV_of h5
  rw [energyR_good (by omega) hv' h1 (by omega) h3, energyR_good (by omega) hv' (by omega) (by omega) h3, hi1, hi2]
  refine ⟨rfl, rfl, ?_, ?_⟩
  ·rw [energyE_val, energyE_val, energyE_val]
   show IntKind.i64.wrap (x.Count * (oneS t x day).Encl.Lo) = IntKind.i64.wrap (IntKind.i64.wrap ((x.Count - k) * (oneS t x day).Encl.Lo) + IntKind.i64.wrap (k * (oneS t x day).Encl.Lo))
   rw [wrap_add2, ← Int.add_mul, Int.sub_add_cancel]
  ·rw [energyE_val, energyE_val, energyE_val]
   show IntKind.i64.wrap (x.Count * (oneS t x day).Encl.Hi) = IntKind.i64.wrap (IntKind.i64.wrap ((x.Count - k) * (oneS t x day).Encl.Hi) + IntKind.i64.wrap (k * (oneS t x day).Encl.Hi))
   rw [wrap_add2, ← Int.add_mul, Int.sub_add_cancel]
 ·left
  have h5 : (taskR (splitT t item.toNat x k)).2.2 = 5 := h5
  exact ⟨by rw [energyR_bad (by omega) h5 (by decide)], by rw [energyR_bad (by omega) h5 (by decide)]⟩
end Go.Proofs.YtblebiafhhhflaaGreat

/- Plain laws: items in two. Plain laws: how long lamps burn on a day. Plain laws: the energy of a lamp: bounds, and what makes it greater. Plain laws: with a lower level of a step no energy becomes greater. -/
import Derived.Test.YtblebiafhhhflaaGreatHm
namespace Go.Proofs.YtblebiafhhhflaaGreat
open Go.RowKit
theorem setCells_one {cs : List AV} {off : Nat} (v : AV) (h : off < cs.length) : setCells cs off [v] = cs.set off v := by
  unfold setCells
  rw [List.set_eq_take_append_cons_drop, if_pos h]; rfl
theorem set_at {α : Type} {f : α → AV} {g : α → List AV} {k : Nat} (hf : ∀ x, f x = .agg (g x)) (hk : ∀ x, (g x).length = k) : ∀ {l : List α} {i j : Nat} {x x' : α} {v : AV}, l[i]? = some x → j < k → g x' = (g x).set j v →
    ((l.map f).flatMap AV.cells).set (i * k + j) v = ((l.set i x').map f).flatMap AV.cells
  | [], i, j, x, x', v, hi, _, _ => by simp at hi
  | y :: r, 0, j, x, x', v, hi, hj, hx => by
    simp only [List.getElem?_cons_zero, Option.some.injEq] at hi
    subst hi
    simp only [List.map_cons, List.flatMap_cons, List.set_cons_zero, hf, AV.cells, Nat.zero_mul, Nat.zero_add]
    rw [List.set_append, if_pos (by rw [hk]; exact hj), hx]
  | y :: r, i + 1, j, x, x', v, hi, hj, hx => by
    simp only [List.getElem?_cons_succ] at hi
    simp only [List.map_cons, List.flatMap_cons, List.set_cons_succ]
    have e : (f y).cells.length = k := by rw [hf]; exact hk y
    rw [List.set_append, if_neg (by rw [e, Nat.succ_mul]; omega), e, show (i + 1) * k + j - k = i * k + j by rw [Nat.succ_mul]; omega, set_at hf hk hi hj hx]
theorem setCells_at {α : Type} {f : α → AV} {g : α → List AV} {k : Nat} (hf : ∀ x, f x = .agg (g x)) (hk : ∀ x, (g x).length = k) {l : List α} {i j : Nat} {x x' : α} {v : AV} (hi : l[i]? = some x) (hj : j < k) (hx : g x' = (g x).set j v) :
    setCells ((l.map f).flatMap AV.cells) (i * k + j) [v] = ((l.set i x').map f).flatMap AV.cells := by
  have hl : i < l.length := (List.getElem?_eq_some_iff.1 hi).1
  have e : ((l.map f).flatMap AV.cells).length = l.length * k := by
    clear hi hl
    induction l with
    | nil => simp
    | cons y r ih => simp only [List.map_cons, List.flatMap_cons, List.length_append, ih, hf, AV.cells, hk, List.length_cons, Nat.succ_mul, Nat.add_comm]
  rw [setCells_one _ (by
    rw [e]
    have : (i + 1) * k ≤ l.length * k := Nat.mul_le_mul_right _ hl
    rw [Nat.succ_mul] at this; omega)]
  exact set_at hf hk hi hj hx
theorem elemsA_map {α : Type} {f : α → AV} {g : α → List AV} {k : Nat} (hf : ∀ x, f x = .agg (g x)) (hk : ∀ x, (g x).length = k) (l : List α) : elemsA k true (l.map f) := by
  intro v hv
  obtain ⟨x, _, rfl⟩ := List.mem_map.1 hv
  exact ⟨_, hf x, hk x⟩
theorem wrap_add2 (a b : Int) : IntKind.i64.wrap (IntKind.i64.wrap a + IntKind.i64.wrap b) = IntKind.i64.wrap (a + b) := by
  simp only [IntKind.wrap_i64]; omega
theorem wrap_0add (a : Int) : IntKind.i64.wrap (0 + IntKind.i64.wrap a) = IntKind.i64.wrap a := by
  simp only [IntKind.wrap_i64]; omega
theorem taskR_items {t : TMtTask} (hv : TaskV t) {l : List TMtItem} (hl : l.length ≤ 20) (hi : ∀ x ∈ l, nameB x.Name = true ∧ itemE t x = 0) :
    (taskR { t with Items := l }).2.2 = 0 ∨ (taskR { t with Items := l }).2.2 = 5 := by
  have h := errM_twice (nm := TMtItem.Name) (rest := itemE { t with Items := l }) (l := l) hi
  unfold taskR
  rw [if_neg (by simp [hv.city]), if_neg (by simp [hv.cat]), if_neg (by have := hv.np; simp only; omega), if_neg (by simp only; omega), if_neg (by have := hv.nm; simp only; omega), if_neg (by simp [hv.pr]), if_neg (by simp [hv.me])]
  split
  · exact h
  · exact .inl rfl
theorem taskV_items {t : TMtTask} (hv : TaskV t) {l : List TMtItem} (h : (taskR { t with Items := l }).2.2 = 0) : TaskV { t with Items := l } := taskV_of h
theorem energyR_ok {t : TMtTask} {item day : Int} (hn : t.Items.length ≤ 2 ^ 62) (h : (energyR t item day).2 = 0) : TaskV t ∧ 0 ≤ item ∧ item < t.Items.length ∧ daylessB day = false ∧ (energyR t item day).1 = energyE t (itemAt t item) day := by
  unfold energyR at h ⊢
  split at h
  · rename_i h1; exact absurd h h1
  rename_i h1
  split at h
  · simp at h
  rename_i h2
  obtain ⟨hv, h3, h4⟩ := accE_zero hn (Decidable.byContradiction h1)
  refine ⟨hv, h3, h4, by simpa using h2, ?_⟩
  rw [if_neg h1, if_neg h2]
theorem energyR_good {t : TMtTask} {item day : Int} (hn : t.Items.length ≤ 2 ^ 62) (hv : TaskV t) (h1 : 0 ≤ item) (h2 : item < t.Items.length) (h3 : daylessB day = false) : energyR t item day = (energyE t (itemAt t item) day, 0) := by
  unfold energyR
  rw [if_neg (by rw [accE_good hn hv h1 h2]; simp), if_neg (by simp [h3])]
theorem energyR_bad {t : TMtTask} {item day : Int} (hn : t.Items.length ≤ 2 ^ 62) {e : Int} (he : (taskR t).2.2 = e) (h0 : e ≠ 0) : energyR t item day = (⟨0, 0⟩, e) := by
  have : accE t item 0 t.Items.length = e := by
    unfold accE
    rw [he, withE_bad (by simpa using h0)]
  unfold energyR
  rw [if_pos (by rw [this]; exact h0), this]
theorem energyE_val (t : TMtTask) (x : TMtItem) (day : Int) : energyE t x day = ⟨IntKind.i64.wrap (x.Count * (oneS t x day).Encl.Lo), IntKind.i64.wrap (x.Count * (oneS t x day).Encl.Hi)⟩ := by
  unfold energyE addS sum0
  rw [wrap_0add, wrap_0add]
def zzS : ByteArray := ByteArray.mk #[122, 122, 45, 116, 104, 101, 45, 111, 116, 104, 101, 114, 45, 112, 97, 114, 116]
/-- An inventory with the lamps of an item in two items. -/
def splitT (t : TMtTask) (i : Nat) (x : TMtItem) (k : Int) : TMtTask := { t with Items := t.Items.set i { x with Count := x.Count - k } ++ [{ x with Name := zzS, Count := k }] }
theorem itemV_count {t : TMtTask} {x : TMtItem} (h : ItemV t x) {s : ByteArray} {k : Int} (h1 : 1 ≤ k) (h2 : k ≤ 1000) : ItemV t { x with Name := s, Count := k } := ⟨h.lamp, h.prof, h.meter, ⟨h1, h2⟩, h.decl, h.until', h.from'⟩
theorem splits {t : TMtTask} {item day k : Int} (hn : t.Items.length < 20) (h : (energyR t item day).2 = 0) (hk : 1 ≤ k) (hk2 : k < (itemAt t item).Count) :
    ((energyR (splitT t item.toNat (itemAt t item) k) item day).2 = 5 ∧ (energyR (splitT t item.toNat (itemAt t item) k) t.Items.length day).2 = 5) ∨
    ((energyR (splitT t item.toNat (itemAt t item) k) item day).2 = 0 ∧ (energyR (splitT t item.toNat (itemAt t item) k) t.Items.length day).2 = 0 ∧
      (energyR t item day).1.Lo = IntKind.i64.wrap ((energyR (splitT t item.toNat (itemAt t item) k) item day).1.Lo + (energyR (splitT t item.toNat (itemAt t item) k) t.Items.length day).1.Lo) ∧
      (energyR t item day).1.Hi = IntKind.i64.wrap ((energyR (splitT t item.toNat (itemAt t item) k) item day).1.Hi + (energyR (splitT t item.toNat (itemAt t item) k) t.Items.length day).1.Hi)) := by
  obtain ⟨hv, h1, h2, h3, h4⟩ := energyR_ok (by omega) h
  obtain ⟨hg, hm, _⟩ := item_get h1 h2
  rw [h4]
  have hlen : (splitT t item.toNat (itemAt t item) k).Items.length = t.Items.length + 1 := by simp [splitT]
  have hi1 : itemAt (splitT t item.toNat (itemAt t item) k) item = { itemAt t item with Count := (itemAt t item).Count - k } := by
    generalize itemAt t item = x
    unfold itemAt splitT
    simp only
    rw [List.getElem?_append_left (by simp; omega), List.getElem?_set_self (by omega)]; rfl
  have hi2 : itemAt (splitT t item.toNat (itemAt t item) k) t.Items.length = { itemAt t item with Name := zzS, Count := k } := by
    generalize itemAt t item = x
    unfold itemAt splitT
    simp only
    rw [List.getElem?_append_right (by simp)]
    simp
  generalize itemAt t item = x at *
  have hx := hv.item hm
  have hcnt := hx.count
  have hname := ((errM_zero hv.it).1 x hm).1
  have L := hv.lens
  have hall : ∀ y ∈ t.Items.set item.toNat { x with Count := x.Count - k } ++ [{ x with Name := zzS, Count := k }], nameB y.Name = true ∧ itemE t y = 0 := by
    intro y hy
    rcases List.mem_append.1 hy with hy | hy
    · rcases List.mem_or_eq_of_mem_set hy with hy | rfl
      · exact (errM_zero hv.it).1 y hy
      · exact ⟨hname, (itemV_iff L.1 L.2.1 L.2.2).2 (itemV_count hx (s := x.Name) (by omega) (by omega))⟩
    · rw [List.mem_singleton] at hy; subst hy
      exact ⟨by kernel_rfl, (itemV_iff L.1 L.2.1 L.2.2).2 (itemV_count hx hk (by omega))⟩
  rcases taskR_items hv (l := t.Items.set item.toNat { x with Count := x.Count - k } ++ [{ x with Name := zzS, Count := k }]) (by simp; omega) hall with h5 | h5
  · right
    have hv' : TaskV (splitT t item.toNat x k) := taskV_of h5
    rw [energyR_good (by omega) hv' h1 (by omega) h3, energyR_good (by omega) hv' (by omega) (by omega) h3, hi1, hi2]
    refine ⟨rfl, rfl, ?_, ?_⟩
    · rw [energyE_val, energyE_val, energyE_val]
      show IntKind.i64.wrap (x.Count * (oneS t x day).Encl.Lo) = IntKind.i64.wrap (IntKind.i64.wrap ((x.Count - k) * (oneS t x day).Encl.Lo) + IntKind.i64.wrap (k * (oneS t x day).Encl.Lo))
      rw [wrap_add2, ← Int.add_mul, Int.sub_add_cancel]
    · rw [energyE_val, energyE_val, energyE_val]
      show IntKind.i64.wrap (x.Count * (oneS t x day).Encl.Hi) = IntKind.i64.wrap (IntKind.i64.wrap ((x.Count - k) * (oneS t x day).Encl.Hi) + IntKind.i64.wrap (k * (oneS t x day).Encl.Hi))
      rw [wrap_add2, ← Int.add_mul, Int.sub_add_cancel]
  · left
    have h5 : (taskR (splitT t item.toNat x k)).2.2 = 5 := h5
    exact ⟨by rw [energyR_bad (by omega) h5 (by decide)], by rw [energyR_bad (by omega) h5 (by decide)]⟩
end Go.Proofs.YtblebiafhhhflaaGreat
namespace Go.Proofs.YtblebiafhhhflaaGreat
open Go.RowKit
theorem wrapIn (n : Int) : -9223372036854775808 ≤ IntKind.i64.wrap n ∧ IntKind.i64.wrap n ≤ 9223372036854775807 := by
  rw [IntKind.wrap_i64]; omega
def Bd (m n : Int) : Prop := -m ≤ n ∧ n ≤ m
theorem quot_bd {a : Int} (h : -9223372036854775808 ≤ a ∧ a ≤ 9223372036854775807) : Bd 738000000000000 (quotE a 12500) := by
  have h1 : (a.tdiv 12500).natAbs = a.natAbs / 12500 := Int.natAbs_tdiv a 12500
  unfold quotE Bd
  have e : IntKind.i64.wrap (a.tdiv 12500) = a.tdiv 12500 := i64 (by omega)
  split
  · rw [e, i64 (by omega)]; omega
  · rw [e]; omega
theorem scale_bd (x : TEncl) (n : Int) : Bd 738000000000000 (scaleE x n 12500).Lo ∧ Bd 738000000000000 (scaleE x n 12500).Hi := by
  unfold scaleE
  refine ⟨quot_bd (wrapIn _), ?_⟩
  have := quot_bd (wrapIn (IntKind.i64.wrap (0 - n) * x.Hi))
  simp only
  unfold Bd at *
  rw [i64 (by omega)]; omega
theorem move_bd {x : TEncl} {m k n : Int} (h : Bd m x.Lo ∧ Bd m x.Hi) (hn : Bd k n) (hm : m + k ≤ 9000000000000000000) : Bd (m + k) (moveE x n).Lo ∧ Bd (m + k) (moveE x n).Hi := by
  unfold Bd moveE at *
  simp only
  rw [i64 (by omega), i64 (by omega)]; omega
theorem opp_bd {x : TEncl} {m : Int} (h : Bd m x.Lo ∧ Bd m x.Hi) (hm : m ≤ 9000000000000000000) : Bd m (oppE x).Lo ∧ Bd m (oppE x).Hi := by
  unfold Bd oppE at *
  simp only
  rw [i64 (by omega), i64 (by omega)]; omega
theorem day_bd {day : Int} (h : 0 ≤ day ∧ day ≤ 50000) : Bd 5000000000 (IntKind.i64.wrap (86400 * day)) := by
  unfold Bd
  rw [i64 (by omega)]; omega
theorem next_bd {w : TEncl} {h : THalf} {lat : TEncl} (hd : 0 ≤ h.day ∧ h.day ≤ 50000) : Bd 738005000000000 (nextE w h lat).Lo ∧ Bd 738005000000000 (nextE w h lat).Hi := by
  unfold nextE
  exact move_bd (scale_bd _ _) (day_bd hd) (by omega)
theorem window_bd {h : THalf} (hd : 0 ≤ h.day ∧ h.day ≤ 50000) : Bd 738005000100000 (windowE h).Lo ∧ Bd 738005000100000 (windowE h).Hi := by
  have hn : Bd 738005000000000 (noonE h).Lo ∧ Bd 738005000000000 (noonE h).Hi := by
    unfold noonE
    exact move_bd (opp_bd (scale_bd _ _) (by omega)) (day_bd hd) (by omega)
  have key : ∀ {x : TEncl} {a b : Int}, (Bd 738005000000000 x.Lo ∧ Bd 738005000000000 x.Hi) → Bd 44400 a → Bd 44400 b → Bd 738005000100000 (sumE [x, ⟨a, b⟩]).Lo ∧ Bd 738005000100000 (sumE [x, ⟨a, b⟩]).Hi := by
    intro x a b hx ha hb
    unfold Bd at *
    unfold sumE addE'
    simp only [List.foldl_cons, List.foldl_nil, Int.zero_add]
    rw [i64 (n := x.Lo) (by omega), i64 (n := x.Hi) (by omega), i64 (by omega), i64 (by omega)]; omega
  unfold windowE
  split
  · exact key hn (by unfold Bd; omega) (by unfold Bd; omega)
  · exact key hn (by unfold Bd; omega) (by unfold Bd; omega)
theorem again_zero {w : TEncl} {h : THalf} {lat : TEncl} (h0 : (againR w h lat).1 = 0) : (againR w h lat).2 = nextE w h lat := by
  unfold againR at h0 ⊢
  split at h0
  · simp at h0
  split at h0
  · simp at h0
  split at h0
  · simp at h0
  split at h0
  · simp at h0
  · rename_i h1 h2 h3 h4
    rw [if_neg h1, if_neg h2, if_neg h3, if_neg h4]
theorem pass_next {h : THalf} : ∀ (k : Nat) (kd : Int) (w : TEncl), (passF h (k + 1) kd w).1 = 0 → ∃ w', (passF h (k + 1) kd w).2 = nextE w' h ⟨h.c.Lat, h.c.Lat⟩ := by
  intro k
  induction k with
  | zero =>
    intro kd w h0
    rw [passF_s] at h0 ⊢
    split at h0
    · rename_i h1; exact absurd h0 h1
    · rename_i h1
      rw [if_neg h1]
      rw [passF_0] at h0 ⊢
      exact ⟨w, again_zero h0⟩
  | succ k ih =>
    intro kd w h0
    rw [passF_s] at h0 ⊢
    split at h0
    · rename_i h1; exact absurd h0 h1
    · rename_i h1
      rw [if_neg h1]
      exact ih _ _ h0
theorem burn_bd {h other : THalf} (hd : 0 ≤ h.day ∧ h.day ≤ 50000) (ho : 0 ≤ other.day ∧ other.day ≤ 50000) : Bd 738005000100000 (burnR h other).1.Lo ∧ Bd 738005000100000 (burnR h other).1.Hi := by
  unfold burnR
  split
  · rename_i h0
    obtain ⟨w', e⟩ := pass_next 2 0 (windowE h) h0
    have e : (passR h).2 = nextE w' h ⟨h.c.Lat, h.c.Lat⟩ := e
    simp only
    rw [e]
    have := next_bd (w := w') (lat := ⟨h.c.Lat, h.c.Lat⟩) hd
    unfold Bd at *; omega
  · split
    · exact window_bd ho
    · exact window_bd hd
theorem night_bd {c : TSnCity} {day : Int} (hd : 0 ≤ day ∧ day ≤ 49999) (hz : -50400 ≤ c.Zone ∧ c.Zone ≤ 50400) : Bd 740000000000000 (nightE c day).On ∧ Bd 740000000000000 (nightE c day).Off := by
  have e : IntKind.i64.wrap (day + 1) = day + 1 := i64 (by omega)
  have h1 := burn_bd (h := duskH c day) (other := dawnH c day) (by unfold duskH; simp only; omega) (by unfold dawnH; simp only; omega)
  have h2 := burn_bd (h := dawnH c day) (other := duskH c day) (by unfold dawnH; simp only; omega) (by unfold duskH; simp only; omega)
  have hn : Bd 5000100000 (IntKind.i64.wrap (IntKind.i64.wrap (43200 + c.Zone) - IntKind.i64.wrap (86400 * day))) := by
    unfold Bd
    rw [i64 (n := 43200 + c.Zone) (by omega), i64 (n := 86400 * day) (by omega), i64 (by omega)]; omega
  unfold nightE
  split
  · unfold Bd; simp only; omega
  · unfold localE
    have := move_bd (x := ⟨(burnR (duskH c day) (dawnH c day)).1.Lo, (burnR (dawnH c day) (duskH c day)).1.Hi⟩) ⟨h1.1, h2.2⟩ hn (by omega)
    unfold Bd at *
    simp only at *
    omega
/-- The seconds of parts of which something holds. -/
def burnC (f : Int → Bool) : List Int → Int
  | [] => 0
  | [_] => 0
  | x :: y :: r => (if f x then y - x else 0) + burnC f (y :: r)
theorem partL_cons (D : List TSnNight) (x y : Int) (r : List Int) : partL D (x :: y :: r) = ⟨x, IntKind.i64.wrap (y - x), D.any (litN x)⟩ :: partL D (y :: r) := by
  unfold partL
  simp only [List.length_cons, Nat.add_sub_cancel]
  rw [List.range_succ_eq_map, List.map_cons, List.map_map]
  rfl
theorem burnC_nonneg (f : Int → Bool) : ∀ {l : List Int}, l.Pairwise (· < ·) → 0 ≤ burnC f l
  | [], _ => by unfold burnC; omega
  | [_], _ => by unfold burnC; omega
  | x :: y :: r, h => by
    have h2 := List.pairwise_cons.1 h
    have hxy := h2.1 y List.mem_cons_self
    have := burnC_nonneg f h2.2
    unfold burnC
    split <;> omega
theorem burnC_most (f : Int → Bool) : ∀ {l : List Int} {x hi : Int}, (x :: l).Pairwise (· < ·) → (∀ z ∈ x :: l, z ≤ hi) → burnC f (x :: l) ≤ hi - x
  | [], x, hi, _, h => by have := h x List.mem_cons_self; unfold burnC; omega
  | y :: r, x, hi, h, hh => by
    have h2 := List.pairwise_cons.1 h
    have hxy := h2.1 y List.mem_cons_self
    have := burnC_most f h2.2 fun z hz => hh z (List.mem_cons_of_mem _ hz)
    unfold burnC
    split <;> omega
theorem burnS_eq (D : List TSnNight) : ∀ {l : List Int} {x acc : Int}, (x :: l).Pairwise (· < ·) → (∀ z ∈ x :: l, 0 ≤ z ∧ z ≤ 86400) → 0 ≤ acc → acc ≤ x →
    (partL D (x :: l)).foldl (fun n p => if p.burns then IntKind.i64.wrap (n + p.long) else n) acc = acc + burnC (fun z => D.any (litN z)) (x :: l)
  | [], x, acc, _, _, _, _ => by unfold burnC; simp [partL]
  | y :: r, x, acc, h, hh, h0, hx => by
    have h2 := List.pairwise_cons.1 h
    have hxy := h2.1 y List.mem_cons_self
    have hy := hh y (by simp)
    have hx' := hh x (by simp)
    rw [partL_cons, List.foldl_cons]
    have rest := fun acc' (a : 0 ≤ acc') (b : acc' ≤ y) => burnS_eq D (acc := acc') h2.2 (fun z hz => hh z (List.mem_cons_of_mem _ hz)) a b
    unfold burnC
    simp only
    cases hb : D.any (litN x) with
    | true =>
      simp only [if_true]
      rw [i64 (n := y - x) (by omega), i64 (by omega), rest _ (by omega) (by omega)]
      omega
    | false =>
      simp only [Bool.false_eq_true, if_false]
      rw [rest _ (by omega) (by omega)]
      omega
theorem burnC_from {f : Int → Bool} : ∀ {l : List Int} {x b : Int}, (x :: l).Pairwise (· < ·) → b ∈ x :: l → (∀ z, x ≤ z → z < b → f z = true) → b - x ≤ burnC f (x :: l)
  | [], x, b, _, hb, _ => by
    rw [List.mem_singleton] at hb; subst hb; unfold burnC; omega
  | y :: r, x, b, h, hb, hf => by
    have h2 := List.pairwise_cons.1 h
    have hxy := h2.1 y List.mem_cons_self
    rcases List.mem_cons.1 hb with rfl | hb
    · have := burnC_nonneg f h; omega
    · have hxb := h2.1 b hb
      have := burnC_from h2.2 hb fun z h3 h4 => hf z (by omega) h4
      unfold burnC
      rw [if_pos (hf x (by omega) hxb)]
      omega
theorem burnC_least {f : Int → Bool} {a b : Int} : ∀ {l : List Int}, l.Pairwise (· < ·) → a ∈ l → b ∈ l → a ≤ b → (∀ z, a ≤ z → z < b → f z = true) → b - a ≤ burnC f l
  | [], _, ha, _, _, _ => by simp at ha
  | x :: r, h, ha, hb, hab, hf => by
    have h2 := List.pairwise_cons.1 h
    rcases List.mem_cons.1 ha with rfl | ha
    · exact burnC_from h hb hf
    · have hxa := h2.1 a ha
      have hb' : b ∈ r := by
        rcases List.mem_cons.1 hb with rfl | hb
        · omega
        · exact hb
      have := burnC_least h2.2 ha hb' hab hf
      match r, h, ha, this with
      | y :: r', h, _, this =>
        have hxy := (List.pairwise_cons.1 h).1 y List.mem_cons_self
        unfold burnC
        split <;> omega
theorem addC_keep {z x : Int} {zs : List Int} (h : z ∈ zs) : z ∈ addC zs x := by
  unfold addC
  split
  · exact h
  · exact List.mem_append_left _ h
theorem addC_new {x : Int} {zs : List Int} (h : 1 ≤ x ∧ x ≤ 86399) : x ∈ addC zs x := by
  unfold addC
  rw [if_neg (by rw [outF.2 h]; decide)]
  simp
theorem cutD_keep {z : Int} : ∀ (D : List TSnNight) {zs : List Int}, z ∈ zs → z ∈ D.foldl cutN zs
  | [], _, h => h
  | n :: r, _, h => cutD_keep r (addC_keep (addC_keep h))
theorem cutS_keep {z : Int} : ∀ (l : List TMtStep) {zs : List Int}, z ∈ zs → z ∈ cutS zs l
  | [], _, h => h
  | n :: r, _, h => cutS_keep r (addC_keep h)
theorem cutLs_keep {z : Int} : ∀ (ls : List (List TMtStep)) {zs : List Int}, z ∈ zs → z ∈ ls.foldl cutS zs
  | [], _, h => h
  | l :: r, _, h => cutLs_keep r (cutS_keep l h)
theorem cutD_night {n : TSnNight} : ∀ {D : List TSnNight} {zs : List Int}, n ∈ D → (1 ≤ n.On ∧ n.On ≤ 86399 → n.On ∈ D.foldl cutN zs) ∧ (1 ≤ n.Off ∧ n.Off ≤ 86399 → n.Off ∈ D.foldl cutN zs)
  | [], _, h => by simp at h
  | m :: r, zs, h => by
    rcases List.mem_cons.1 h with rfl | h
    · exact ⟨fun h => cutD_keep r (addC_keep (addC_new h)), fun h => cutD_keep r (addC_new h)⟩
    · exact cutD_night (zs := cutN zs m) h
theorem cuts_ends (D : List TSnNight) (ls : List (List TMtStep)) : (0 : Int) ∈ cutsL D ls ∧ (86400 : Int) ∈ cutsL D ls :=
  ⟨uniq_mem.2 (cutLs_keep ls (cutD_keep D (by simp))), uniq_mem.2 (cutLs_keep ls (cutD_keep D (by simp)))⟩
theorem cuts_night {D : List TSnNight} {ls : List (List TMtStep)} {n : TSnNight} (h : n ∈ D) : (1 ≤ n.On ∧ n.On ≤ 86399 → n.On ∈ cutsL D ls) ∧ (1 ≤ n.Off ∧ n.Off ≤ 86399 → n.Off ∈ cutsL D ls) :=
  ⟨fun h1 => uniq_mem.2 (cutLs_keep ls ((cutD_night h).1 h1)), fun h1 => uniq_mem.2 (cutLs_keep ls ((cutD_night h).2 h1))⟩
theorem cuts_cons (D : List TSnNight) (ls : List (List TMtStep)) : ∃ l, cutsL D ls = 0 :: l := by
  have h0 := (cuts_ends D ls).1
  have ha := cutsL_asc D ls
  have hi := cutsL_in (D := D) (ls := ls)
  generalize cutsL D ls = l at *
  match l, h0, ha, hi with
  | x :: r, h0, ha, hi =>
    rcases List.mem_cons.1 h0 with rfl | h1
    · exact ⟨r, rfl⟩
    · have := (List.pairwise_cons.1 ha).1 0 h1
      have := (hi x List.mem_cons_self).1
      omega
theorem burnS_cuts (D : List TSnNight) (ls : List (List TMtStep)) : burnS (partL D (cutsL D ls)) = burnC (fun z => D.any (litN z)) (cutsL D ls) := by
  obtain ⟨l, hl⟩ := cuts_cons D ls
  have ha := cutsL_asc D ls
  have hi := cutsL_in (D := D) (ls := ls)
  rw [hl] at ha hi ⊢
  have := burnS_eq D ha hi (Int.le_refl 0) (Int.le_refl 0)
  unfold burnS
  rw [this, Int.zero_add]
/-- How long lamps burn on a day, by the night after it. -/
theorem burns_law {t : TMtTask} {day : Int} (hd : 2 ≤ day ∧ day ≤ 39998) (hc : cityB t.City = false) : 0 ≤ burnS (dayP t day []) ∧ burnS (dayP t day []) ≤ 86400 ∧ (nightR t.City day).2 = 0 ∧
    Bd 740000000000000 (nightR t.City day).1.On ∧ Bd 740000000000000 (nightR t.City day).1.Off ∧
    (∀ a b, a = max 0 (nightR t.City day).1.On → b = min 86400 (nightR t.City day).1.Off → b - a ≤ burnS (dayP t day [])) := by
  have hz : -50400 ≤ t.City.Zone ∧ t.City.Zone ≤ 50400 := by
    unfold cityB at hc
    simp only [Bool.or_eq_false_iff] at hc
    exact outF.1 hc.2.2.1
  have hn : nightR t.City day = (nightE t.City day, 0) := by
    unfold nightR
    rw [if_neg (by simp [hc]), if_neg (by rw [outF.2 ⟨by omega, by omega⟩]; decide)]
  have hb := night_bd (c := t.City) (day := day) (by omega) hz
  have hmem : nightE t.City day ∈ darkL t.City day 4 := by
    have e : darkK t.City day 2 = nightE t.City day := by
      unfold darkK dayK
      have e1 : IntKind.i64.wrap (day - (2 - ((2 : Nat) : Int))) = day := by rw [show day - (2 - ((2 : Nat) : Int)) = day by omega]; exact i64 (by omega)
      have e2 : IntKind.i64.wrap (86400 * (2 - ((2 : Nat) : Int))) = 0 := by decide
      rw [e1, e2, hn]
      unfold Bd at hb
      simp only [Int.sub_zero]
      rw [i64 (by omega), i64 (by omega)]
    rw [← e]
    simp [darkL]
  have hcut := burnS_cuts (darkL t.City day 4) []
  have hasc := cutsL_asc (darkL t.City day 4) []
  have hin := cutsL_in (D := darkL t.City day 4) (ls := [])
  have hends := cuts_ends (darkL t.City day 4) []
  have hnt := cuts_night (ls := []) hmem
  obtain ⟨l, hl⟩ := cuts_cons (darkL t.City day 4) []
  have hburn : ∀ z, (nightE t.City day).On ≤ z → z < (nightE t.City day).Off → (darkL t.City day 4).any (litN z) = true := fun z h1 h2 =>
    List.any_eq_true.2 ⟨_, hmem, by unfold litN; simp [h1, h2]⟩
  unfold dayP
  rw [hcut, hn]
  refine ⟨burnC_nonneg _ hasc, ?_, rfl, hb.1, hb.2, ?_⟩
  · rw [hl] at hasc hin ⊢
    have := burnC_most (fun z => (darkL t.City day 4).any (litN z)) hasc (hi := 86400) fun z hz => (hin z hz).2
    omega
  · rintro a b rfl rfl
    simp only
    generalize nightE t.City day = N at *
    by_cases hab : max 0 N.On ≤ min 86400 N.Off
    · refine burnC_least hasc ?_ ?_ hab fun z h1 h2 => hburn z (by omega) (by omega)
      · by_cases h1 : N.On ≤ 0
        · rw [show max 0 N.On = 0 by omega]; exact hends.1
        · by_cases h2 : N.On ≤ 86399
          · rw [show max 0 N.On = N.On by omega]; exact hnt.1 ⟨by omega, h2⟩
          · rw [show max 0 N.On = 86400 by omega]; exact hends.2
      · by_cases h1 : 86400 ≤ N.Off
        · rw [show min 86400 N.Off = 86400 by omega]; exact hends.2
        · by_cases h2 : 1 ≤ N.Off
          · rw [show min 86400 N.Off = N.Off by omega]; exact hnt.2 ⟨h2, by omega⟩
          · rw [show min 86400 N.Off = 0 by omega]; exact hends.1
    · have := burnC_nonneg (fun z => (darkL t.City day 4).any (litN z)) hasc
      omega
end Go.Proofs.YtblebiafhhhflaaGreat
namespace Go.Proofs.YtblebiafhhhflaaGreat
open Go.RowKit
structure LampV (x : TLmLamp) : Prop where
  power : 1 ≤ x.Power ∧ x.Power ≤ 5000000
  standing : 0 ≤ x.Standing ∧ x.Standing ≤ x.Power
  tol : 0 ≤ x.Tolerance ∧ x.Tolerance ≤ 1000
  dim : 0 ≤ x.Dim ∧ x.Dim ≤ 1000
theorem errAt_zero {α : Type} {nm : α → ByteArray} {rest : Nat → α → Int} {l : List α} (h : (firstE (errAt nm rest l) l.length 0).2 = 0) {i : Nat} {x : α} (hx : l[i]? = some x) : nameB (nm x) = true ∧ (l.take i).any (fun y => twinB (nm y) (nm x)) = false ∧ rest i x = 0 := by
  have hl := (List.getElem?_eq_some_iff.1 hx).1
  have h0 := firstE_ok h i (by omega) (by omega)
  rw [errAt_some hx] at h0
  split at h0
  · simp at h0
  · rename_i hn
    split at h0
    · simp at h0
    · rename_i hh
      exact ⟨by simpa using hn, by simpa using hh, h0⟩
theorem lampV_of {n : Int} {i : Nat} {x : TLmLamp} (h : lampS n i x = 0) : LampV x := by
  unfold lampS at h
  split at h
  · simp at h
  split at h
  · simp at h
  split at h
  · simp at h
  rename_i h3
  have h3 : numB x = true := by simpa using h3
  unfold numB at h3
  simp only [Bool.and_eq_true, inB_iff] at h3
  exact ⟨h3.2.1, h3.2.2.1, h3.2.2.2.1, h3.2.2.2.2.2.2.2.1⟩
theorem cat_lamps {c : TLmCatalog} (h : (catR c).2.2 = 0) : (firstR TLmLamp.Name (lampS (c.Tables.length - 1)) c.Lamps).2 = 0 := by
  unfold catR at h
  split at h
  · simp at h
  split at h
  · simp at h
  split at h
  · rename_i h1; exact absurd h h1
  split at h
  · rename_i h2; exact absurd h h2
  · rename_i h2; exact Decidable.byContradiction h2
theorem lamped_ok {c : TLmCatalog} (h : (catR c).2.2 = 0) {i : Int} (h0 : 0 ≤ i) (h1 : i < c.Lamps.length) : lampedR c i = (lampAt c i, 0) ∧ LampV (lampAt c i) ∧ c.Lamps[i.toNat]? = some (lampAt c i) := by
  have e : c.Lamps[i.toNat]? = some (lampAt c i) := by
    unfold lampAt; rw [List.getElem?_eq_getElem (by omega)]; rfl
  refine ⟨?_, lampV_of (errAt_zero (cat_lamps h) e).2.2, e⟩
  unfold lampedR
  rw [if_neg (by simp [h]), if_neg (by rw [inB_iff.2 ⟨h0, by omega⟩]; decide)]
/-- Thousandths of the power at a level. -/
def powA (x : TLmLamp) (lvl : Int) : Int := x.Standing * 1000 + (x.Power - x.Standing) * lvl
theorem powA_bd {x : TLmLamp} (h : LampV x) {lvl : Int} (h0 : 0 ≤ lvl) (h1 : lvl ≤ 1000) : 0 ≤ powA x lvl ∧ powA x lvl ≤ 5000000000 ∧ 0 ≤ (x.Power - x.Standing) * lvl ∧ (x.Power - x.Standing) * lvl ≤ 5000000000 := by
  have hp := h.power
  have hs := h.standing
  have m0 : 0 ≤ (x.Power - x.Standing) * lvl := Int.mul_nonneg (by omega) h0
  have m1 : (x.Power - x.Standing) * lvl ≤ (x.Power - x.Standing) * 1000 := Int.mul_le_mul_of_nonneg_left h1 (by omega)
  unfold powA
  omega
theorem powA_mono {x y : TLmLamp} {a b : Int} (hs : x.Standing = y.Standing) (hp : x.Power ≤ y.Power) (hx : x.Standing ≤ x.Power) (h0 : 0 ≤ a) (hab : a ≤ b) : powA x a ≤ powA y b := by
  have m1 : (x.Power - x.Standing) * a ≤ (x.Power - x.Standing) * b := Int.mul_le_mul_of_nonneg_left hab (by omega)
  have m2 : (x.Power - x.Standing) * b ≤ (y.Power - y.Standing) * b := Int.mul_le_mul_of_nonneg_right (by omega) (by omega)
  unfold powA
  omega
theorem floorE_val {a : Int} (h : -9000000000000000000 ≤ a ∧ a ≤ 9000000000000000000) : floorE a 1000000 = a / 1000000 := by
  have h2 : a.tmod 1000000 = a - 1000000 * a.tdiv 1000000 := by have := Int.tmod_add_mul_tdiv a 1000000; omega
  unfold floorE
  rw [h2]
  by_cases h0 : 0 ≤ a
  · have h1 : a.tdiv 1000000 = a / 1000000 := Int.tdiv_eq_ediv_of_nonneg h0
    rw [h1, if_neg (by omega), i64 (by omega)]
  · have h1 : a.tdiv 1000000 = -((-a) / 1000000) := by
      obtain ⟨b, rfl⟩ : ∃ b, a = -b := ⟨-a, by omega⟩
      rw [Int.neg_tdiv, Int.tdiv_eq_ediv_of_nonneg (by omega), Int.neg_neg]
    rw [h1, i64 (n := -((-a) / 1000000)) (by omega)]
    split
    · rw [i64 (by omega)]; omega
    · omega
theorem ceilE_val {a : Int} (h : 0 ≤ a ∧ a ≤ 9000000000000000000) : ceilE a 1000000 = -((-a) / 1000000) := by
  unfold ceilE
  rw [show (0 : Int) - a = -a by omega, i64 (n := -a) (by omega), floorE_val (by omega), show (0 : Int) - -a / 1000000 = -(-a / 1000000) by omega, i64 (by omega)]
theorem powerE_val {x : TLmLamp} (h : LampV x) {lvl : Int} (h0 : 0 ≤ lvl) (h1 : lvl ≤ 1000) : powerE x lvl = ⟨(powA x lvl * (1000 - x.Tolerance)) / 1000000, -((-(powA x lvl * (1000 + x.Tolerance))) / 1000000)⟩ ∧
    0 ≤ powA x lvl * (1000 - x.Tolerance) ∧ powA x lvl * (1000 - x.Tolerance) ≤ 5000000000000 ∧ 0 ≤ powA x lvl * (1000 + x.Tolerance) ∧ powA x lvl * (1000 + x.Tolerance) ≤ 10000000000000 := by
  have hp := h.power
  have hs := h.standing
  have ht := h.tol
  obtain ⟨b0, b1, b2, b3⟩ := powA_bd h h0 h1
  have m0 : 0 ≤ powA x lvl * (1000 - x.Tolerance) := Int.mul_nonneg b0 (by omega)
  have m1 : powA x lvl * (1000 - x.Tolerance) ≤ powA x lvl * 1000 := Int.mul_le_mul_of_nonneg_left (by omega) b0
  have m2 : 0 ≤ powA x lvl * (1000 + x.Tolerance) := Int.mul_nonneg b0 (by omega)
  have m3 : powA x lvl * (1000 + x.Tolerance) ≤ powA x lvl * 2000 := Int.mul_le_mul_of_nonneg_left (by omega) b0
  refine ⟨?_, m0, by omega, m2, by omega⟩
  unfold powerE
  rw [i64 (n := x.Standing * 1000) (by omega), i64 (n := x.Power - x.Standing) (by omega), i64 (n := (x.Power - x.Standing) * lvl) (by omega)]
  have e : x.Standing * 1000 + (x.Power - x.Standing) * lvl = powA x lvl := rfl
  rw [e, i64 (n := powA x lvl) (by omega), i64 (n := 1000 - x.Tolerance) (by omega), i64 (n := 1000 + x.Tolerance) (by omega)]
  generalize powA x lvl * (1000 - x.Tolerance) = p at *
  generalize powA x lvl * (1000 + x.Tolerance) = q at *
  rw [i64 (n := p) (by omega), i64 (n := q) (by omega), floorE_val (by omega), ceilE_val (by omega)]
/-- An enclosure that is nowhere greater. -/
def leE (x y : TEncl) : Prop := x.Lo ≤ y.Lo ∧ x.Hi ≤ y.Hi
theorem powerE_bd {x : TLmLamp} (h : LampV x) {lvl : Int} (h0 : 0 ≤ lvl) (h1 : lvl ≤ 1000) : 0 ≤ (powerE x lvl).Lo ∧ (powerE x lvl).Lo ≤ (powerE x lvl).Hi ∧ (powerE x lvl).Hi ≤ 10000000 := by
  obtain ⟨e, b0, b1, b2, b3⟩ := powerE_val h h0 h1
  have ht := h.tol
  have hm : powA x lvl * (1000 - x.Tolerance) ≤ powA x lvl * (1000 + x.Tolerance) := Int.mul_le_mul_of_nonneg_left (by omega) (powA_bd h h0 h1).1
  rw [e]
  simp only
  omega
theorem powerE_mono {x y : TLmLamp} (hx : LampV x) (hy : LampV y) {a b : Int} (hs : x.Standing = y.Standing) (hp : x.Power ≤ y.Power) (ht : x.Tolerance = y.Tolerance) (h0 : 0 ≤ a) (hab : a ≤ b) (h1 : b ≤ 1000) : leE (powerE x a) (powerE y b) := by
  have e1 := (powerE_val hx h0 (by omega)).1
  have e2 := (powerE_val hy (lvl := b) (by omega) h1).1
  have hm := powA_mono hs hp hx.standing.2 h0 hab
  have htol := hy.tol
  have m1 : powA x a * (1000 - x.Tolerance) ≤ powA y b * (1000 - y.Tolerance) := by rw [ht]; exact Int.mul_le_mul_of_nonneg_right hm (by omega)
  have m2 : powA x a * (1000 + x.Tolerance) ≤ powA y b * (1000 + y.Tolerance) := by rw [ht]; exact Int.mul_le_mul_of_nonneg_right hm (by omega)
  rw [e1, e2]
  unfold leE
  simp only
  omega
theorem levelE_bd {x : TLmLamp} (h : LampV x) (w : Int) : 1 ≤ levelE x w ∧ levelE x w ≤ 1000 := by
  have := h.dim
  unfold levelE maxI
  split <;> split <;> omega
theorem levelE_mono {x y : TLmLamp} (hd : x.Dim = y.Dim) {a b : Int} (h : a ≤ b) : levelE x a ≤ levelE y b := by
  unfold levelE maxI
  rw [hd]
  repeat' split
  all_goals omega
/-- The level of a lamp. -/
def levV (x : TLmLamp) (w : Int) : Int := if w ≤ 0 then 0 else levelE x w
theorem levV_bd {x : TLmLamp} (h : LampV x) (w : Int) : 0 ≤ levV x w ∧ levV x w ≤ 1000 := by
  have := levelE_bd h w
  unfold levV
  split <;> omega
theorem levV_mono {x y : TLmLamp} (hy : LampV y) (hd : x.Dim = y.Dim) {a b : Int} (h : a ≤ b) : levV x a ≤ levV y b := by
  have h1 := levelE_mono hd h
  have h2 := levelE_bd hy b
  unfold levV
  split <;> split <;> omega
/-- What a lamp uses in a part of a day. -/
def useP (x : TLmLamp) (l : List TMtStep) (p : Part) : TEncl := powerE x (if p.burns then levV x (wantAt l p.from') else 0)
theorem powAt_val {t : TMtTask} {x : TMtItem} (hc : (catR t.Catalog).2.2 = 0) (hl : 0 ≤ x.Lamp ∧ x.Lamp < t.Catalog.Lamps.length) (p : Part) : powAt t x p = useP (lampAt t.Catalog x.Lamp) (profAt t x.Profile).Steps p ∧ LampV (lampAt t.Catalog x.Lamp) := by
  obtain ⟨h1, h2, _⟩ := lamped_ok hc hl.1 hl.2
  refine ⟨?_, h2⟩
  have e : levAt t x p = if p.burns then levV (lampAt t.Catalog x.Lamp) (wantAt (profAt t x.Profile).Steps p.from') else 0 := by
    unfold levAt
    split
    · unfold levelR levV
      rw [h1]
      simp only [ne_eq, not_true_eq_false, if_false]
      split <;> rfl
    · rfl
  have hb : inB (levAt t x p) 0 1000 = true := by
    rw [e, inB_iff]
    split
    · exact levV_bd h2 _
    · omega
  unfold powAt powerR
  rw [h1, if_neg (by simp), if_neg (by rw [hb]; decide), e]; rfl
theorem useP_bd {x : TLmLamp} (h : LampV x) (l : List TMtStep) (p : Part) : 0 ≤ (useP x l p).Lo ∧ (useP x l p).Lo ≤ (useP x l p).Hi ∧ (useP x l p).Hi ≤ 10000000 := by
  unfold useP
  split
  · have := levV_bd h (wantAt l p.from'); exact powerE_bd h this.1 this.2
  · exact powerE_bd h (by omega) (by omega)
/-- A sum over parts of a day. -/
def sumP (f : Part → Int) : List Part → Int
  | [] => 0
  | p :: r => p.long * f p + sumP f r
theorem sumP_mono {f g : Part → Int} : ∀ {l : List Part}, (∀ p ∈ l, 0 ≤ p.long ∧ f p ≤ g p) → sumP f l ≤ sumP g l
  | [], _ => Int.le_refl _
  | p :: r, h => by
    have h1 := h p List.mem_cons_self
    have h2 := sumP_mono fun q hq => h q (List.mem_cons_of_mem _ hq)
    have h3 : p.long * f p ≤ p.long * g p := Int.mul_le_mul_of_nonneg_left h1.2 h1.1
    unfold sumP
    omega
theorem sumP_const {c : Int} : ∀ {l : List Part}, sumP (fun _ => c) l = c * sumP (fun _ => 1) l
  | [] => by unfold sumP; simp
  | p :: r => by
    unfold sumP
    rw [sumP_const (l := r), Int.mul_add, Int.mul_one, Int.mul_comm]
theorem fold_val {t : TMtTask} {x : TMtItem} {w : Part → TEncl} (hw : ∀ p, powAt t x p = w p) (hb : ∀ p, 0 ≤ (w p).Lo ∧ (w p).Lo ≤ (w p).Hi ∧ (w p).Hi ≤ 10000000) : ∀ {l : List Part} {s : TSum}, (∀ p ∈ l, 0 ≤ p.long) → 0 ≤ s.Encl.Lo → 0 ≤ s.Encl.Hi →
    s.Encl.Lo + 10000000 * sumP (fun _ => 1) l ≤ 4000000000000000000 → s.Encl.Hi + 10000000 * sumP (fun _ => 1) l ≤ 4000000000000000000 → l.foldl (partS t x) s = ⟨⟨s.Encl.Lo + sumP (fun p => (w p).Lo) l, s.Encl.Hi + sumP (fun p => (w p).Hi) l⟩⟩
  | [], s, _, _, _, _, _ => by unfold sumP; simp only [List.foldl_nil, Int.add_zero]
  | p :: r, s, hl, h0, h1, h2, h3 => by
    have hp := hl p List.mem_cons_self
    have hwp := hb p
    have hr : 0 ≤ sumP (fun _ => 1) r := by
      have := sumP_mono (f := fun _ => 0) (g := fun _ => 1) (l := r) fun q hq => ⟨hl q (List.mem_cons_of_mem _ hq), by omega⟩
      rw [sumP_const, Int.zero_mul] at this; exact this
    unfold sumP at h2 h3 ⊢
    have m0 : 0 ≤ p.long * (w p).Lo := Int.mul_nonneg hp hwp.1
    have m1 : 0 ≤ p.long * (w p).Hi := Int.mul_nonneg hp (by omega)
    have m2 : p.long * (w p).Lo ≤ p.long * 10000000 := Int.mul_le_mul_of_nonneg_left (by omega) hp
    have m3 : p.long * (w p).Hi ≤ p.long * 10000000 := Int.mul_le_mul_of_nonneg_left (by omega) hp
    have e : partS t x s p = ⟨⟨s.Encl.Lo + p.long * (w p).Lo, s.Encl.Hi + p.long * (w p).Hi⟩⟩ := by
      unfold partS addS
      rw [hw p]
      generalize p.long * (w p).Lo = u at *
      generalize p.long * (w p).Hi = v at *
      rw [i64 (n := u) (by omega), i64 (n := v) (by omega), i64 (by omega), i64 (by omega)]
    rw [List.foldl_cons, e, fold_val hw hb (l := r) (fun q hq => hl q (List.mem_cons_of_mem _ hq)) (by simp only; omega) (by simp only; omega) (by simp only; omega) (by simp only; omega)]
    simp only
    rw [Int.add_assoc, Int.add_assoc]
/-- The parts of a day last a day. -/
theorem partL_long (D : List TSnNight) : ∀ {l : List Int} {x : Int}, (x :: l).Pairwise (· < ·) → (∀ z ∈ x :: l, 0 ≤ z ∧ z ≤ 86400) → (∀ p ∈ partL D (x :: l), 0 ≤ p.long) ∧ 0 ≤ sumP (fun _ => 1) (partL D (x :: l)) ∧ sumP (fun _ => 1) (partL D (x :: l)) ≤ 86400 - x
  | [], x, _, hh => by
    have := hh x (by simp)
    simp [partL, sumP]; omega
  | y :: r, x, h, hh => by
    have h2 := List.pairwise_cons.1 h
    have hxy := h2.1 y List.mem_cons_self
    have hy := hh y (by simp)
    have hx' := hh x (by simp)
    obtain ⟨k1, k2, k3⟩ := partL_long D h2.2 fun z hz => hh z (List.mem_cons_of_mem _ hz)
    have e : IntKind.i64.wrap (y - x) = y - x := i64 (by omega)
    rw [partL_cons, e]
    refine ⟨fun p hp => ?_, ?_, ?_⟩
    · rcases List.mem_cons.1 hp with rfl | hp
      · simp only; omega
      · exact k1 p hp
    · unfold sumP; simp only; omega
    · unfold sumP; simp only; omega
theorem dayP_long (t : TMtTask) (day : Int) (ls : List (List TMtStep)) : (∀ p ∈ dayP t day ls, 0 ≤ p.long) ∧ 0 ≤ sumP (fun _ => 1) (dayP t day ls) ∧ sumP (fun _ => 1) (dayP t day ls) ≤ 86400 := by
  obtain ⟨l, hl⟩ := cuts_cons (darkL t.City day 4) ls
  have ha := cutsL_asc (darkL t.City day 4) ls
  have hi := cutsL_in (D := darkL t.City day 4) (ls := ls)
  unfold dayP
  rw [hl] at ha hi ⊢
  have := partL_long (darkL t.City day 4) ha hi
  exact ⟨this.1, this.2.1, by omega⟩
/-- The energy of one lamp on a day, without a bound of words. -/
def oneE (x : TLmLamp) (l : List TMtStep) (ps : List Part) : TEncl := ⟨sumP (fun p => (useP x l p).Lo) ps, sumP (fun p => (useP x l p).Hi) ps⟩
theorem oneE_bd {x : TLmLamp} (h : LampV x) (l : List TMtStep) {ps : List Part} (hl : ∀ p ∈ ps, 0 ≤ p.long) (h1 : sumP (fun _ => 1) ps ≤ 86400) : 0 ≤ (oneE x l ps).Lo ∧ (oneE x l ps).Lo ≤ (oneE x l ps).Hi ∧ (oneE x l ps).Hi ≤ 864000000000 := by
  refine ⟨?_, sumP_mono fun p hp => ⟨hl p hp, (useP_bd h l p).2.1⟩, ?_⟩
  · have := sumP_mono (f := fun _ => 0) (g := fun p => (useP x l p).Lo) (l := ps) fun p hp => ⟨hl p hp, (useP_bd h l p).1⟩
    rw [sumP_const, Int.zero_mul] at this; exact this
  · have := sumP_mono (f := fun p => (useP x l p).Hi) (g := fun _ => 10000000) (l := ps) fun p hp => ⟨hl p hp, (useP_bd h l p).2.2⟩
    rw [sumP_const] at this
    have e : (oneE x l ps).Hi = sumP (fun p => (useP x l p).Hi) ps := rfl
    omega
theorem oneS_val {t : TMtTask} {x : TMtItem} (hc : (catR t.Catalog).2.2 = 0) (hl : 0 ≤ x.Lamp ∧ x.Lamp < t.Catalog.Lamps.length) (day : Int) :
    oneS t x day = if goneB x day then sum0 else ⟨oneE (lampAt t.Catalog x.Lamp) (profAt t x.Profile).Steps (dayP t day [(profAt t x.Profile).Steps])⟩ := by
  have hv := (powAt_val hc hl ⟨0, 0, false⟩).2
  have hd := dayP_long t day [(profAt t x.Profile).Steps]
  unfold oneS
  split
  · rfl
  · rw [fold_val (w := useP (lampAt t.Catalog x.Lamp) (profAt t x.Profile).Steps) (fun p => (powAt_val hc hl p).1) (useP_bd hv _) hd.1 (by unfold sum0; simp) (by unfold sum0; simp) (by unfold sum0; simp only; omega) (by unfold sum0; simp only; omega)]
    unfold sum0 oneE
    simp only [Int.zero_add]
theorem oneS_bd {t : TMtTask} {x : TMtItem} (hc : (catR t.Catalog).2.2 = 0) (hl : 0 ≤ x.Lamp ∧ x.Lamp < t.Catalog.Lamps.length) (day : Int) : 0 ≤ (oneS t x day).Encl.Lo ∧ (oneS t x day).Encl.Lo ≤ (oneS t x day).Encl.Hi ∧ (oneS t x day).Encl.Hi ≤ 864000000000 := by
  rw [oneS_val hc hl]
  split
  · decide
  · have hd := dayP_long t day [(profAt t x.Profile).Steps]
    exact oneE_bd (powAt_val hc hl ⟨0, 0, false⟩).2 _ hd.1 hd.2.2
theorem oneE_mono {x y : TLmLamp} (hx : LampV x) (hy : LampV y) (hs : x.Standing = y.Standing) (hp : x.Power ≤ y.Power) (ht : x.Tolerance = y.Tolerance) (hd : x.Dim = y.Dim) {l m : List TMtStep} (hlm : ∀ s, wantAt l s ≤ wantAt m s) {ps : List Part} (hl : ∀ p ∈ ps, 0 ≤ p.long) : leE (oneE x l ps) (oneE y m ps) := by
  have key : ∀ p, leE (useP x l p) (useP y m p) := by
    intro p
    unfold useP
    split
    · exact powerE_mono hx hy hs hp ht (levV_bd hx _).1 (levV_mono hy hd (hlm _)) (levV_bd hy _).2
    · exact powerE_mono hx hy hs hp ht (by omega) (by omega) (by omega)
  exact ⟨sumP_mono fun p hp => ⟨hl p hp, (key p).1⟩, sumP_mono fun p hp => ⟨hl p hp, (key p).2⟩⟩
theorem energyE_exact {t : TMtTask} {x : TMtItem} (hv : TaskV t) (hx : x ∈ t.Items) (day : Int) : energyE t x day = ⟨x.Count * (oneS t x day).Encl.Lo, x.Count * (oneS t x day).Encl.Hi⟩ := by
  have hi := hv.item hx
  have hb := oneS_bd hv.cat hi.lamp day
  have hc := hi.count
  have m0 : 0 ≤ x.Count * (oneS t x day).Encl.Lo := Int.mul_nonneg (by omega) hb.1
  have m1 : 0 ≤ x.Count * (oneS t x day).Encl.Hi := Int.mul_nonneg (by omega) (by omega)
  have m2 : x.Count * (oneS t x day).Encl.Hi ≤ 1000 * (oneS t x day).Encl.Hi := Int.mul_le_mul_of_nonneg_right hc.2 (by omega)
  have m3 : x.Count * (oneS t x day).Encl.Lo ≤ x.Count * (oneS t x day).Encl.Hi := Int.mul_le_mul_of_nonneg_left hb.2.1 (by omega)
  rw [energyE_val]
  generalize x.Count * (oneS t x day).Encl.Lo = u at *
  generalize x.Count * (oneS t x day).Encl.Hi = v at *
  rw [i64 (by omega), i64 (by omega)]
end Go.Proofs.YtblebiafhhhflaaGreat
namespace Go.Proofs.YtblebiafhhhflaaGreat
open Go.RowKit
theorem validF_true {m : Int} : ∀ {l : List TMtStep} {g : Bool} {b : Int}, validF l g b m = true → g = true
  | [], _, _, h => h
  | s :: r, g, b, h => by
    unfold validF at h
    have := validF_true h
    rw [Bool.and_eq_true] at this
    exact this.1
theorem validF_mem {m : Int} : ∀ {l : List TMtStep} {g : Bool} {b : Int}, validF l g b m = true → ∀ s ∈ l, 0 ≤ s.Level ∧ s.Level ≤ m
  | [], _, _, _ => by simp
  | s :: r, g, b, h => by
    unfold validF at h
    have h1 := validF_true h
    rw [Bool.and_eq_true, Bool.and_eq_true] at h1
    intro z hz
    rcases List.mem_cons.1 hz with rfl | hz
    · exact outF.1 (by simpa using h1.2.2)
    · exact validF_mem h z hz
theorem validF_set {m : Int} {s s' : TMtStep} (hf : s'.From = s.From) (hl : 0 ≤ s'.Level ∧ s'.Level ≤ m) : ∀ {l : List TMtStep} {i : Nat} {g : Bool} {b : Int}, l[i]? = some s → validF l g b m = true → validF (l.set i s') g b m = true
  | [], _, _, _, hi, _ => by simp at hi
  | z :: r, 0, g, b, hi, h => by
    simp only [List.getElem?_cons_zero, Option.some.injEq] at hi
    subst hi
    rw [List.set_cons_zero]
    unfold validF at h ⊢
    have h1 := validF_true h
    rw [Bool.and_eq_true, Bool.and_eq_true] at h1
    rw [hf, outF.2 hl, h1.1, h1.2.1, Bool.not_false, Bool.and_true, Bool.and_true]
    rw [h1.1, h1.2.1, h1.2.2, Bool.and_true, Bool.and_true] at h
    exact h
  | z :: r, i + 1, g, b, hi, h => by
    simp only [List.getElem?_cons_succ] at hi
    rw [List.set_cons_succ]
    unfold validF at h ⊢
    exact validF_set hf hl hi h
theorem atF_set {s s' : TMtStep} (hf : s'.From = s.From) {l : List TMtStep} {i : Nat} (hi : l[i]? = some s) (second : Int) : ∀ k, atF second k (l.set i s') = atF second k l
  | 0 => by unfold atF; rw [List.length_set]
  | k + 1 => by
    unfold atF
    by_cases hk : i = k
    · subst hk
      rw [List.getElem?_set_self (List.getElem?_eq_some_iff.1 hi).1, hi]
      simp only
      rw [hf, atF_set hf hi second i]
    · rw [List.getElem?_set_ne hk, atF_set hf hi second k]
theorem wantAt_set {s s' : TMtStep} (hf : s'.From = s.From) (hl : s'.Level ≤ s.Level) {l : List TMtStep} {i : Nat} (hi : l[i]? = some s) (second : Int) : wantAt (l.set i s') second ≤ wantAt l second := by
  unfold wantAt
  rw [List.length_set, atF_set hf hi, List.getD, List.getD]
  by_cases hk : i = atF second l.length l
  · rw [← hk, List.getElem?_set_self (List.getElem?_eq_some_iff.1 hi).1, hi]
    exact hl
  · rw [List.getElem?_set_ne hk]
    exact Int.le_refl _
theorem cutS_from (zs : List Int) (l : List TMtStep) : cutS zs l = (l.map TMtStep.From).foldl addC zs := by
  unfold cutS; rw [List.foldl_map]
theorem set_same {α β : Type} {f : α → β} {l : List α} {i : Nat} {x x' : α} (hi : l[i]? = some x) (hf : f x' = f x) : (l.set i x').map f = l.map f := by
  rw [List.map_set, hf]
  obtain ⟨h, rfl⟩ := List.getElem?_eq_some_iff.1 hi
  apply List.ext_getElem
  · simp
  · intro j h1 h2
    by_cases hj : i = j
    · subst hj; simp
    · rw [List.getElem_set_ne hj]
/-- An inventory with other steps in a profile. -/
def stepsT (t : TMtTask) (k : Nat) (p : TMtProfile) (l : List TMtStep) : TMtTask := { t with Profiles := t.Profiles.set k { p with Steps := l } }
theorem taskV_steps {t : TMtTask} (hv : TaskV t) {k : Nat} {p : TMtProfile} (hk : t.Profiles[k]? = some p) {l : List TMtStep} (h1 : 1 ≤ l.length ∧ l.length ≤ 8) (h2 : validF l true (-1) 1000 = true) : TaskV (stepsT t k p l) := by
  have hz := errM_zero hv.pr
  have e : itemE (stepsT t k p l) = itemE t := by
    funext x
    unfold itemE stepsT
    simp only [List.length_set]
  refine ⟨hv.city, hv.cat, ?_, hv.ni, hv.nm, ?_, hv.me, ?_⟩
  · have := hv.np; unfold stepsT; simpa using this
  · have := errM_good (nm := TMtProfile.Name) (rest := profE) (l := (stepsT t k p l).Profiles) ?_ ?_
    · rw [this]
    · intro x hx
      rcases List.mem_or_eq_of_mem_set hx with hx | rfl
      · exact hz.1 x hx
      · refine ⟨(hz.1 p (List.mem_of_getElem? hk)).1, ?_⟩
        unfold profE
        simp only
        rw [if_neg (by rw [outF.2 ⟨by omega, by omega⟩]; decide), if_pos h2]
    · unfold stepsT
      simp only
      rw [set_same (f := TMtProfile.Name) (x' := { p with Steps := l }) hk rfl]; exact hz.2
  · rw [e]; exact hv.it
theorem dims {t : TMtTask} {item day : Int} (hn : t.Items.length ≤ 2 ^ 62) (h : (energyR t item day).2 = 0) {i : Nat} {s : TMtStep} {lev : Int} (hs : (profAt t (itemAt t item).Profile).Steps[i]? = some s) (h0 : 0 ≤ lev) (h1 : lev ≤ s.Level) :
    (energyR (stepsT t (itemAt t item).Profile.toNat (profAt t (itemAt t item).Profile) ((profAt t (itemAt t item).Profile).Steps.set i { s with Level := lev })) item day).2 = 0 ∧
    leE (energyR (stepsT t (itemAt t item).Profile.toNat (profAt t (itemAt t item).Profile) ((profAt t (itemAt t item).Profile).Steps.set i { s with Level := lev })) item day).1 (energyR t item day).1 := by
  obtain ⟨hv, g1, g2, g3, g4⟩ := energyR_ok hn h
  obtain ⟨hg, hm, _⟩ := item_get g1 g2
  rw [g4]
  generalize hx : itemAt t item = x at *
  have hi := hv.item hm
  obtain ⟨hp, _⟩ := prof_get hi.prof.1 hi.prof.2
  have hpv := hv.prof (profAt_mem hi.prof)
  generalize hpp : profAt t x.Profile = p at *
  have hsl := validF_mem hpv.2.2 s (List.mem_of_getElem? hs)
  have hval : validF (p.Steps.set i { s with Level := lev }) true (-1) 1000 = true := validF_set (s := s) (s' := { s with Level := lev }) rfl ⟨h0, by simp only; omega⟩ hs hpv.2.2
  have hv' := taskV_steps hv hp (l := p.Steps.set i { s with Level := lev }) (by rw [List.length_set]; exact ⟨hpv.1, hpv.2.1⟩) hval
  have hgood := energyR_good (t := stepsT t x.Profile.toNat p (p.Steps.set i { s with Level := lev })) (item := item) (day := day) hn hv' g1 g2 g3
  have hx' : itemAt (stepsT t x.Profile.toNat p (p.Steps.set i { s with Level := lev })) item = x := hx
  rw [hx'] at hgood
  rw [hgood]
  refine ⟨rfl, ?_⟩
  have hm' : x ∈ (stepsT t x.Profile.toNat p (p.Steps.set i { s with Level := lev })).Items := hm
  rw [energyE_exact hv hm, energyE_exact hv' hm']
  have hp' : profAt (stepsT t x.Profile.toNat p (p.Steps.set i { s with Level := lev })) x.Profile = { p with Steps := p.Steps.set i { s with Level := lev } } := by
    have hpr := hi.prof
    unfold profAt stepsT
    simp only
    rw [List.getElem?_set_self (by omega)]; rfl
  have e1 := oneS_val hv.cat hi.lamp day
  have e2 := oneS_val (t := stepsT t x.Profile.toNat p (p.Steps.set i { s with Level := lev })) (x := x) hv.cat hi.lamp day
  rw [hp'] at e2
  rw [hpp] at e1
  have hday : dayP (stepsT t x.Profile.toNat p (p.Steps.set i { s with Level := lev })) day [p.Steps.set i { s with Level := lev }] = dayP t day [p.Steps] := by
    unfold dayP cutsL cutR
    simp only [List.foldl_cons, List.foldl_nil]
    rw [cutS_from, cutS_from, set_same (x := s) (x' := { s with Level := lev }) hs rfl]; rfl
  simp only at e2
  rw [hday] at e2
  have hd := dayP_long t day [p.Steps]
  have hlamp := (lamped_ok hv.cat hi.lamp.1 hi.lamp.2).2.1
  have hmono := oneE_mono hlamp hlamp rfl (Int.le_refl _) rfl rfl (l := p.Steps.set i { s with Level := lev }) (m := p.Steps) (fun sec => wantAt_set (s := s) (s' := { s with Level := lev }) rfl h1 hs sec) hd.1
  have hle : leE (oneS (stepsT t x.Profile.toNat p (p.Steps.set i { s with Level := lev })) x day).Encl (oneS t x day).Encl := by
    rw [e1, e2]
    split
    · exact ⟨Int.le_refl _, Int.le_refl _⟩
    · exact hmono
  have hc := hi.count
  exact ⟨Int.mul_le_mul_of_nonneg_left hle.1 (by omega), Int.mul_le_mul_of_nonneg_left hle.2 (by omega)⟩
end Go.Proofs.YtblebiafhhhflaaGreat

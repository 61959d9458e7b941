/- Plain laws: items in two. Plain laws: how long lamps burn on a day. -/
import Derived.Test.YtblebiafhhhflaaGreatHm
namespace Go.Proofs.YtblebiafhhhflaaGreat
open Go.RowKit
theorem setCells_one {cs : List AV} {off : Nat} (v : AV) (h : off < cs.length) : setCells cs off [v] = cs.set off v := by
  unfold setCells
  rw [List.set_eq_take_append_cons_drop, if_pos h]; rfl
theorem set_at {α : Type} {f : α → AV} {g : α → List AV} {k : Nat} (hf : ∀ x, f x = .agg (g x)) (hk : ∀ x, (g x).length = k) : ∀ {l : List α} {i j : Nat} {x x' : α} {v : AV}, l[i]? = some x → j < k → g x' = (g x).set j v →
    ((l.map f).flatMap AV.cells).set (i * k + j) v = ((l.set i x').map f).flatMap AV.cells
  | [], i, j, x, x', v, hi, _, _ => by simp at hi
  | y :: r, 0, j, x, x', v, hi, hj, hx => by
    simp only [List.getElem?_cons_zero, Option.some.injEq] at hi
    subst hi
    simp only [List.map_cons, List.flatMap_cons, List.set_cons_zero, hf, AV.cells, Nat.zero_mul, Nat.zero_add]
    rw [List.set_append, if_pos (by rw [hk]; exact hj), hx]
  | y :: r, i + 1, j, x, x', v, hi, hj, hx => by
    simp only [List.getElem?_cons_succ] at hi
    simp only [List.map_cons, List.flatMap_cons, List.set_cons_succ]
    have e : (f y).cells.length = k := by rw [hf]; exact hk y
    rw [List.set_append, if_neg (by rw [e, Nat.succ_mul]; omega), e, show (i + 1) * k + j - k = i * k + j by rw [Nat.succ_mul]; omega, set_at hf hk hi hj hx]
theorem setCells_at {α : Type} {f : α → AV} {g : α → List AV} {k : Nat} (hf : ∀ x, f x = .agg (g x)) (hk : ∀ x, (g x).length = k) {l : List α} {i j : Nat} {x x' : α} {v : AV} (hi : l[i]? = some x) (hj : j < k) (hx : g x' = (g x).set j v) :
    setCells ((l.map f).flatMap AV.cells) (i * k + j) [v] = ((l.set i x').map f).flatMap AV.cells := by
  have hl : i < l.length := (List.getElem?_eq_some_iff.1 hi).1
  have e : ((l.map f).flatMap AV.cells).length = l.length * k := by
    clear hi hl
    induction l with
    | nil => simp
    | cons y r ih => simp only [List.map_cons, List.flatMap_cons, List.length_append, ih, hf, AV.cells, hk, List.length_cons, Nat.succ_mul, Nat.add_comm]
  rw [setCells_one _ (by
    rw [e]
    have : (i + 1) * k ≤ l.length * k := Nat.mul_le_mul_right _ hl
    rw [Nat.succ_mul] at this; omega)]
  exact set_at hf hk hi hj hx
theorem elemsA_map {α : Type} {f : α → AV} {g : α → List AV} {k : Nat} (hf : ∀ x, f x = .agg (g x)) (hk : ∀ x, (g x).length = k) (l : List α) : elemsA k true (l.map f) := by
  intro v hv
  obtain ⟨x, _, rfl⟩ := List.mem_map.1 hv
  exact ⟨_, hf x, hk x⟩
theorem wrap_add2 (a b : Int) : IntKind.i64.wrap (IntKind.i64.wrap a + IntKind.i64.wrap b) = IntKind.i64.wrap (a + b) := by
  simp only [IntKind.wrap_i64]; omega
theorem wrap_0add (a : Int) : IntKind.i64.wrap (0 + IntKind.i64.wrap a) = IntKind.i64.wrap a := by
  simp only [IntKind.wrap_i64]; omega
theorem taskR_items {t : TMtTask} (hv : TaskV t) {l : List TMtItem} (hl : l.length ≤ 20) (hi : ∀ x ∈ l, nameB x.Name = true ∧ itemE t x = 0) :
    (taskR { t with Items := l }).2.2 = 0 ∨ (taskR { t with Items := l }).2.2 = 5 := by
  have h := errM_twice (nm := TMtItem.Name) (rest := itemE { t with Items := l }) (l := l) hi
  unfold taskR
  rw [if_neg (by simp [hv.city]), if_neg (by simp [hv.cat]), if_neg (by have := hv.np; simp only; omega), if_neg (by simp only; omega), if_neg (by have := hv.nm; simp only; omega), if_neg (by simp [hv.pr]), if_neg (by simp [hv.me])]
  split
  · exact h
  · exact .inl rfl
theorem taskV_items {t : TMtTask} (hv : TaskV t) {l : List TMtItem} (h : (taskR { t with Items := l }).2.2 = 0) : TaskV { t with Items := l } := taskV_of h
theorem energyR_ok {t : TMtTask} {item day : Int} (hn : t.Items.length ≤ 2 ^ 62) (h : (energyR t item day).2 = 0) : TaskV t ∧ 0 ≤ item ∧ item < t.Items.length ∧ daylessB day = false ∧ (energyR t item day).1 = energyE t (itemAt t item) day := by
  unfold energyR at h ⊢
  split at h
  · rename_i h1; exact absurd h h1
  rename_i h1
  split at h
  · simp at h
  rename_i h2
  obtain ⟨hv, h3, h4⟩ := accE_zero hn (Decidable.byContradiction h1)
  refine ⟨hv, h3, h4, by simpa using h2, ?_⟩
  rw [if_neg h1, if_neg h2]
theorem energyR_good {t : TMtTask} {item day : Int} (hn : t.Items.length ≤ 2 ^ 62) (hv : TaskV t) (h1 : 0 ≤ item) (h2 : item < t.Items.length) (h3 : daylessB day = false) : energyR t item day = (energyE t (itemAt t item) day, 0) := by
  unfold energyR
  rw [if_neg (by rw [accE_good hn hv h1 h2]; simp), if_neg (by simp [h3])]
theorem energyR_bad {t : TMtTask} {item day : Int} (hn : t.Items.length ≤ 2 ^ 62) {e : Int} (he : (taskR t).2.2 = e) (h0 : e ≠ 0) : energyR t item day = (⟨0, 0⟩, e) := by
  have : accE t item 0 t.Items.length = e := by
    unfold accE
    rw [he, withE_bad (by simpa using h0)]
  unfold energyR
  rw [if_pos (by rw [this]; exact h0), this]
theorem energyE_val (t : TMtTask) (x : TMtItem) (day : Int) : energyE t x day = ⟨IntKind.i64.wrap (x.Count * (oneS t x day).Encl.Lo), IntKind.i64.wrap (x.Count * (oneS t x day).Encl.Hi)⟩ := by
  unfold energyE addS sum0
  rw [wrap_0add, wrap_0add]
def zzS : ByteArray := ByteArray.mk #[122, 122, 45, 116, 104, 101, 45, 111, 116, 104, 101, 114, 45, 112, 97, 114, 116]
/-- An inventory with the lamps of an item in two items. -/
def splitT (t : TMtTask) (i : Nat) (x : TMtItem) (k : Int) : TMtTask := { t with Items := t.Items.set i { x with Count := x.Count - k } ++ [{ x with Name := zzS, Count := k }] }
theorem itemV_count {t : TMtTask} {x : TMtItem} (h : ItemV t x) {s : ByteArray} {k : Int} (h1 : 1 ≤ k) (h2 : k ≤ 1000) : ItemV t { x with Name := s, Count := k } := ⟨h.lamp, h.prof, h.meter, ⟨h1, h2⟩, h.decl, h.until', h.from'⟩
theorem splits {t : TMtTask} {item day k : Int} (hn : t.Items.length < 20) (h : (energyR t item day).2 = 0) (hk : 1 ≤ k) (hk2 : k < (itemAt t item).Count) :
    ((energyR (splitT t item.toNat (itemAt t item) k) item day).2 = 5 ∧ (energyR (splitT t item.toNat (itemAt t item) k) t.Items.length day).2 = 5) ∨
    ((energyR (splitT t item.toNat (itemAt t item) k) item day).2 = 0 ∧ (energyR (splitT t item.toNat (itemAt t item) k) t.Items.length day).2 = 0 ∧
      (energyR t item day).1.Lo = IntKind.i64.wrap ((energyR (splitT t item.toNat (itemAt t item) k) item day).1.Lo + (energyR (splitT t item.toNat (itemAt t item) k) t.Items.length day).1.Lo) ∧
      (energyR t item day).1.Hi = IntKind.i64.wrap ((energyR (splitT t item.toNat (itemAt t item) k) item day).1.Hi + (energyR (splitT t item.toNat (itemAt t item) k) t.Items.length day).1.Hi)) := by
  obtain ⟨hv, h1, h2, h3, h4⟩ := energyR_ok (by omega) h
  obtain ⟨hg, hm, _⟩ := item_get h1 h2
  rw [h4]
  have hlen : (splitT t item.toNat (itemAt t item) k).Items.length = t.Items.length + 1 := by simp [splitT]
  have hi1 : itemAt (splitT t item.toNat (itemAt t item) k) item = { itemAt t item with Count := (itemAt t item).Count - k } := by
    generalize itemAt t item = x
    unfold itemAt splitT
    simp only
    rw [List.getElem?_append_left (by simp; omega), List.getElem?_set_self (by omega)]; rfl
  have hi2 : itemAt (splitT t item.toNat (itemAt t item) k) t.Items.length = { itemAt t item with Name := zzS, Count := k } := by
    generalize itemAt t item = x
    unfold itemAt splitT
    simp only
    rw [List.getElem?_append_right (by simp)]
    simp
  generalize itemAt t item = x at *
  have hx := hv.item hm
  have hcnt := hx.count
  have hname := ((errM_zero hv.it).1 x hm).1
  have L := hv.lens
  have hall : ∀ y ∈ t.Items.set item.toNat { x with Count := x.Count - k } ++ [{ x with Name := zzS, Count := k }], nameB y.Name = true ∧ itemE t y = 0 := by
    intro y hy
    rcases List.mem_append.1 hy with hy | hy
    · rcases List.mem_or_eq_of_mem_set hy with hy | rfl
      · exact (errM_zero hv.it).1 y hy
      · exact ⟨hname, (itemV_iff L.1 L.2.1 L.2.2).2 (itemV_count hx (s := x.Name) (by omega) (by omega))⟩
    · rw [List.mem_singleton] at hy; subst hy
      exact ⟨by kernel_rfl, (itemV_iff L.1 L.2.1 L.2.2).2 (itemV_count hx hk (by omega))⟩
  rcases taskR_items hv (l := t.Items.set item.toNat { x with Count := x.Count - k } ++ [{ x with Name := zzS, Count := k }]) (by simp; omega) hall with h5 | h5
  · right
    have hv' : TaskV (splitT t item.toNat x k) := taskV_of h5
    rw [energyR_good (by omega) hv' h1 (by omega) h3, energyR_good (by omega) hv' (by omega) (by omega) h3, hi1, hi2]
    refine ⟨rfl, rfl, ?_, ?_⟩
    · rw [energyE_val, energyE_val, energyE_val]
      show IntKind.i64.wrap (x.Count * (oneS t x day).Encl.Lo) = IntKind.i64.wrap (IntKind.i64.wrap ((x.Count - k) * (oneS t x day).Encl.Lo) + IntKind.i64.wrap (k * (oneS t x day).Encl.Lo))
      rw [wrap_add2, ← Int.add_mul, Int.sub_add_cancel]
    · rw [energyE_val, energyE_val, energyE_val]
      show IntKind.i64.wrap (x.Count * (oneS t x day).Encl.Hi) = IntKind.i64.wrap (IntKind.i64.wrap ((x.Count - k) * (oneS t x day).Encl.Hi) + IntKind.i64.wrap (k * (oneS t x day).Encl.Hi))
      rw [wrap_add2, ← Int.add_mul, Int.sub_add_cancel]
  · left
    have h5 : (taskR (splitT t item.toNat x k)).2.2 = 5 := h5
    exact ⟨by rw [energyR_bad (by omega) h5 (by decide)], by rw [energyR_bad (by omega) h5 (by decide)]⟩
end Go.Proofs.YtblebiafhhhflaaGreat
namespace Go.Proofs.YtblebiafhhhflaaGreat
open Go.RowKit
theorem wrapIn (n : Int) : -9223372036854775808 ≤ IntKind.i64.wrap n ∧ IntKind.i64.wrap n ≤ 9223372036854775807 := by
  rw [IntKind.wrap_i64]; omega
def Bd (m n : Int) : Prop := -m ≤ n ∧ n ≤ m
theorem quot_bd {a : Int} (h : -9223372036854775808 ≤ a ∧ a ≤ 9223372036854775807) : Bd 738000000000000 (quotE a 12500) := by
  have h1 : (a.tdiv 12500).natAbs = a.natAbs / 12500 := Int.natAbs_tdiv a 12500
  unfold quotE Bd
  have e : IntKind.i64.wrap (a.tdiv 12500) = a.tdiv 12500 := i64 (by omega)
  split
  · rw [e, i64 (by omega)]; omega
  · rw [e]; omega
theorem scale_bd (x : TEncl) (n : Int) : Bd 738000000000000 (scaleE x n 12500).Lo ∧ Bd 738000000000000 (scaleE x n 12500).Hi := by
  unfold scaleE
  refine ⟨quot_bd (wrapIn _), ?_⟩
  have := quot_bd (wrapIn (IntKind.i64.wrap (0 - n) * x.Hi))
  simp only
  unfold Bd at *
  rw [i64 (by omega)]; omega
theorem move_bd {x : TEncl} {m k n : Int} (h : Bd m x.Lo ∧ Bd m x.Hi) (hn : Bd k n) (hm : m + k ≤ 9000000000000000000) : Bd (m + k) (moveE x n).Lo ∧ Bd (m + k) (moveE x n).Hi := by
  unfold Bd moveE at *
  simp only
  rw [i64 (by omega), i64 (by omega)]; omega
theorem opp_bd {x : TEncl} {m : Int} (h : Bd m x.Lo ∧ Bd m x.Hi) (hm : m ≤ 9000000000000000000) : Bd m (oppE x).Lo ∧ Bd m (oppE x).Hi := by
  unfold Bd oppE at *
  simp only
  rw [i64 (by omega), i64 (by omega)]; omega
theorem day_bd {day : Int} (h : 0 ≤ day ∧ day ≤ 50000) : Bd 5000000000 (IntKind.i64.wrap (86400 * day)) := by
  unfold Bd
  rw [i64 (by omega)]; omega
theorem next_bd {w : TEncl} {h : THalf} {lat : TEncl} (hd : 0 ≤ h.day ∧ h.day ≤ 50000) : Bd 738005000000000 (nextE w h lat).Lo ∧ Bd 738005000000000 (nextE w h lat).Hi := by
  unfold nextE
  exact move_bd (scale_bd _ _) (day_bd hd) (by omega)
theorem window_bd {h : THalf} (hd : 0 ≤ h.day ∧ h.day ≤ 50000) : Bd 738005000100000 (windowE h).Lo ∧ Bd 738005000100000 (windowE h).Hi := by
  have hn : Bd 738005000000000 (noonE h).Lo ∧ Bd 738005000000000 (noonE h).Hi := by
    unfold noonE
    exact move_bd (opp_bd (scale_bd _ _) (by omega)) (day_bd hd) (by omega)
  have key : ∀ {x : TEncl} {a b : Int}, (Bd 738005000000000 x.Lo ∧ Bd 738005000000000 x.Hi) → Bd 44400 a → Bd 44400 b → Bd 738005000100000 (sumE [x, ⟨a, b⟩]).Lo ∧ Bd 738005000100000 (sumE [x, ⟨a, b⟩]).Hi := by
    intro x a b hx ha hb
    unfold Bd at *
    unfold sumE addE'
    simp only [List.foldl_cons, List.foldl_nil, Int.zero_add]
    rw [i64 (n := x.Lo) (by omega), i64 (n := x.Hi) (by omega), i64 (by omega), i64 (by omega)]; omega
  unfold windowE
  split
  · exact key hn (by unfold Bd; omega) (by unfold Bd; omega)
  · exact key hn (by unfold Bd; omega) (by unfold Bd; omega)
theorem again_zero {w : TEncl} {h : THalf} {lat : TEncl} (h0 : (againR w h lat).1 = 0) : (againR w h lat).2 = nextE w h lat := by
  unfold againR at h0 ⊢
  split at h0
  · simp at h0
  split at h0
  · simp at h0
  split at h0
  · simp at h0
  split at h0
  · simp at h0
  · rename_i h1 h2 h3 h4
    rw [if_neg h1, if_neg h2, if_neg h3, if_neg h4]
theorem pass_next {h : THalf} : ∀ (k : Nat) (kd : Int) (w : TEncl), (passF h (k + 1) kd w).1 = 0 → ∃ w', (passF h (k + 1) kd w).2 = nextE w' h ⟨h.c.Lat, h.c.Lat⟩ := by
  intro k
  induction k with
  | zero =>
    intro kd w h0
    rw [passF_s] at h0 ⊢
    split at h0
    · rename_i h1; exact absurd h0 h1
    · rename_i h1
      rw [if_neg h1]
      rw [passF_0] at h0 ⊢
      exact ⟨w, again_zero h0⟩
  | succ k ih =>
    intro kd w h0
    rw [passF_s] at h0 ⊢
    split at h0
    · rename_i h1; exact absurd h0 h1
    · rename_i h1
      rw [if_neg h1]
      exact ih _ _ h0
theorem burn_bd {h other : THalf} (hd : 0 ≤ h.day ∧ h.day ≤ 50000) (ho : 0 ≤ other.day ∧ other.day ≤ 50000) : Bd 738005000100000 (burnR h other).1.Lo ∧ Bd 738005000100000 (burnR h other).1.Hi := by
  unfold burnR
  split
  · rename_i h0
    obtain ⟨w', e⟩ := pass_next 2 0 (windowE h) h0
    have e : (passR h).2 = nextE w' h ⟨h.c.Lat, h.c.Lat⟩ := e
    simp only
    rw [e]
    have := next_bd (w := w') (lat := ⟨h.c.Lat, h.c.Lat⟩) hd
    unfold Bd at *; omega
  · split
    · exact window_bd ho
    · exact window_bd hd
theorem night_bd {c : TSnCity} {day : Int} (hd : 0 ≤ day ∧ day ≤ 49999) (hz : -50400 ≤ c.Zone ∧ c.Zone ≤ 50400) : Bd 740000000000000 (nightE c day).On ∧ Bd 740000000000000 (nightE c day).Off := by
  have e : IntKind.i64.wrap (day + 1) = day + 1 := i64 (by omega)
  have h1 := burn_bd (h := duskH c day) (other := dawnH c day) (by unfold duskH; simp only; omega) (by unfold dawnH; simp only; omega)
  have h2 := burn_bd (h := dawnH c day) (other := duskH c day) (by unfold dawnH; simp only; omega) (by unfold duskH; simp only; omega)
  have hn : Bd 5000100000 (IntKind.i64.wrap (IntKind.i64.wrap (43200 + c.Zone) - IntKind.i64.wrap (86400 * day))) := by
    unfold Bd
    rw [i64 (n := 43200 + c.Zone) (by omega), i64 (n := 86400 * day) (by omega), i64 (by omega)]; omega
  unfold nightE
  split
  · unfold Bd; simp only; omega
  · unfold localE
    have := move_bd (x := ⟨(burnR (duskH c day) (dawnH c day)).1.Lo, (burnR (dawnH c day) (duskH c day)).1.Hi⟩) ⟨h1.1, h2.2⟩ hn (by omega)
    unfold Bd at *
    simp only at *
    omega
/-- The seconds of parts of which something holds. -/
def burnC (f : Int → Bool) : List Int → Int
  | [] => 0
  | [_] => 0
  | x :: y :: r => (if f x then y - x else 0) + burnC f (y :: r)
theorem partL_cons (D : List TSnNight) (x y : Int) (r : List Int) : partL D (x :: y :: r) = ⟨x, IntKind.i64.wrap (y - x), D.any (litN x)⟩ :: partL D (y :: r) := by
  unfold partL
  simp only [List.length_cons, Nat.add_sub_cancel]
  rw [List.range_succ_eq_map, List.map_cons, List.map_map]
  rfl
theorem burnC_nonneg (f : Int → Bool) : ∀ {l : List Int}, l.Pairwise (· < ·) → 0 ≤ burnC f l
  | [], _ => by unfold burnC; omega
  | [_], _ => by unfold burnC; omega
  | x :: y :: r, h => by
    have h2 := List.pairwise_cons.1 h
    have hxy := h2.1 y List.mem_cons_self
    have := burnC_nonneg f h2.2
    unfold burnC
    split <;> omega
theorem burnC_most (f : Int → Bool) : ∀ {l : List Int} {x hi : Int}, (x :: l).Pairwise (· < ·) → (∀ z ∈ x :: l, z ≤ hi) → burnC f (x :: l) ≤ hi - x
  | [], x, hi, _, h => by have := h x List.mem_cons_self; unfold burnC; omega
  | y :: r, x, hi, h, hh => by
    have h2 := List.pairwise_cons.1 h
    have hxy := h2.1 y List.mem_cons_self
    have := burnC_most f h2.2 fun z hz => hh z (List.mem_cons_of_mem _ hz)
    unfold burnC
    split <;> omega
theorem burnS_eq (D : List TSnNight) : ∀ {l : List Int} {x acc : Int}, (x :: l).Pairwise (· < ·) → (∀ z ∈ x :: l, 0 ≤ z ∧ z ≤ 86400) → 0 ≤ acc → acc ≤ x →
    (partL D (x :: l)).foldl (fun n p => if p.burns then IntKind.i64.wrap (n + p.long) else n) acc = acc + burnC (fun z => D.any (litN z)) (x :: l)
  | [], x, acc, _, _, _, _ => by unfold burnC; simp [partL]
  | y :: r, x, acc, h, hh, h0, hx => by
    have h2 := List.pairwise_cons.1 h
    have hxy := h2.1 y List.mem_cons_self
    have hy := hh y (by simp)
    have hx' := hh x (by simp)
    rw [partL_cons, List.foldl_cons]
    have rest := fun acc' (a : 0 ≤ acc') (b : acc' ≤ y) => burnS_eq D (acc := acc') h2.2 (fun z hz => hh z (List.mem_cons_of_mem _ hz)) a b
    unfold burnC
    simp only
    cases hb : D.any (litN x) with
    | true =>
      simp only [if_true]
      rw [i64 (n := y - x) (by omega), i64 (by omega), rest _ (by omega) (by omega)]
      omega
    | false =>
      simp only [Bool.false_eq_true, if_false]
      rw [rest _ (by omega) (by omega)]
      omega
theorem burnC_from {f : Int → Bool} : ∀ {l : List Int} {x b : Int}, (x :: l).Pairwise (· < ·) → b ∈ x :: l → (∀ z, x ≤ z → z < b → f z = true) → b - x ≤ burnC f (x :: l)
  | [], x, b, _, hb, _ => by
    rw [List.mem_singleton] at hb; subst hb; unfold burnC; omega
  | y :: r, x, b, h, hb, hf => by
    have h2 := List.pairwise_cons.1 h
    have hxy := h2.1 y List.mem_cons_self
    rcases List.mem_cons.1 hb with rfl | hb
    · have := burnC_nonneg f h; omega
    · have hxb := h2.1 b hb
      have := burnC_from h2.2 hb fun z h3 h4 => hf z (by omega) h4
      unfold burnC
      rw [if_pos (hf x (by omega) hxb)]
      omega
theorem burnC_least {f : Int → Bool} {a b : Int} : ∀ {l : List Int}, l.Pairwise (· < ·) → a ∈ l → b ∈ l → a ≤ b → (∀ z, a ≤ z → z < b → f z = true) → b - a ≤ burnC f l
  | [], _, ha, _, _, _ => by simp at ha
  | x :: r, h, ha, hb, hab, hf => by
    have h2 := List.pairwise_cons.1 h
    rcases List.mem_cons.1 ha with rfl | ha
    · exact burnC_from h hb hf
    · have hxa := h2.1 a ha
      have hb' : b ∈ r := by
        rcases List.mem_cons.1 hb with rfl | hb
        · omega
        · exact hb
      have := burnC_least h2.2 ha hb' hab hf
      match r, h, ha, this with
      | y :: r', h, _, this =>
        have hxy := (List.pairwise_cons.1 h).1 y List.mem_cons_self
        unfold burnC
        split <;> omega
theorem addC_keep {z x : Int} {zs : List Int} (h : z ∈ zs) : z ∈ addC zs x := by
  unfold addC
  split
  · exact h
  · exact List.mem_append_left _ h
theorem addC_new {x : Int} {zs : List Int} (h : 1 ≤ x ∧ x ≤ 86399) : x ∈ addC zs x := by
  unfold addC
  rw [if_neg (by rw [outF.2 h]; decide)]
  simp
theorem cutD_keep {z : Int} : ∀ (D : List TSnNight) {zs : List Int}, z ∈ zs → z ∈ D.foldl cutN zs
  | [], _, h => h
  | n :: r, _, h => cutD_keep r (addC_keep (addC_keep h))
theorem cutS_keep {z : Int} : ∀ (l : List TMtStep) {zs : List Int}, z ∈ zs → z ∈ cutS zs l
  | [], _, h => h
  | n :: r, _, h => cutS_keep r (addC_keep h)
theorem cutLs_keep {z : Int} : ∀ (ls : List (List TMtStep)) {zs : List Int}, z ∈ zs → z ∈ ls.foldl cutS zs
  | [], _, h => h
  | l :: r, _, h => cutLs_keep r (cutS_keep l h)
theorem cutD_night {n : TSnNight} : ∀ {D : List TSnNight} {zs : List Int}, n ∈ D → (1 ≤ n.On ∧ n.On ≤ 86399 → n.On ∈ D.foldl cutN zs) ∧ (1 ≤ n.Off ∧ n.Off ≤ 86399 → n.Off ∈ D.foldl cutN zs)
  | [], _, h => by simp at h
  | m :: r, zs, h => by
    rcases List.mem_cons.1 h with rfl | h
    · exact ⟨fun h => cutD_keep r (addC_keep (addC_new h)), fun h => cutD_keep r (addC_new h)⟩
    · exact cutD_night (zs := cutN zs m) h
theorem cuts_ends (D : List TSnNight) (ls : List (List TMtStep)) : (0 : Int) ∈ cutsL D ls ∧ (86400 : Int) ∈ cutsL D ls :=
  ⟨uniq_mem.2 (cutLs_keep ls (cutD_keep D (by simp))), uniq_mem.2 (cutLs_keep ls (cutD_keep D (by simp)))⟩
theorem cuts_night {D : List TSnNight} {ls : List (List TMtStep)} {n : TSnNight} (h : n ∈ D) : (1 ≤ n.On ∧ n.On ≤ 86399 → n.On ∈ cutsL D ls) ∧ (1 ≤ n.Off ∧ n.Off ≤ 86399 → n.Off ∈ cutsL D ls) :=
  ⟨fun h1 => uniq_mem.2 (cutLs_keep ls ((cutD_night h).1 h1)), fun h1 => uniq_mem.2 (cutLs_keep ls ((cutD_night h).2 h1))⟩
theorem cuts_cons (D : List TSnNight) (ls : List (List TMtStep)) : ∃ l, cutsL D ls = 0 :: l := by
  have h0 := (cuts_ends D ls).1
  have ha := cutsL_asc D ls
  have hi := cutsL_in (D := D) (ls := ls)
  generalize cutsL D ls = l at *
  match l, h0, ha, hi with
  | x :: r, h0, ha, hi =>
    rcases List.mem_cons.1 h0 with rfl | h1
    · exact ⟨r, rfl⟩
    · have := (List.pairwise_cons.1 ha).1 0 h1
      have := (hi x List.mem_cons_self).1
      omega
theorem burnS_cuts (D : List TSnNight) (ls : List (List TMtStep)) : burnS (partL D (cutsL D ls)) = burnC (fun z => D.any (litN z)) (cutsL D ls) := by
  obtain ⟨l, hl⟩ := cuts_cons D ls
  have ha := cutsL_asc D ls
  have hi := cutsL_in (D := D) (ls := ls)
  rw [hl] at ha hi ⊢
  have := burnS_eq D ha hi (Int.le_refl 0) (Int.le_refl 0)
  unfold burnS
  rw [this, Int.zero_add]
/-- How long lamps burn on a day, by the night after it. -/
theorem burns_law {t : TMtTask} {day : Int} (hd : 2 ≤ day ∧ day ≤ 39998) (hc : cityB t.City = false) : 0 ≤ burnS (dayP t day []) ∧ burnS (dayP t day []) ≤ 86400 ∧ (nightR t.City day).2 = 0 ∧
    Bd 740000000000000 (nightR t.City day).1.On ∧ Bd 740000000000000 (nightR t.City day).1.Off ∧
    (∀ a b, a = max 0 (nightR t.City day).1.On → b = min 86400 (nightR t.City day).1.Off → b - a ≤ burnS (dayP t day [])) := by
  have hz : -50400 ≤ t.City.Zone ∧ t.City.Zone ≤ 50400 := by
    unfold cityB at hc
    simp only [Bool.or_eq_false_iff] at hc
    exact outF.1 hc.2.2.1
  have hn : nightR t.City day = (nightE t.City day, 0) := by
    unfold nightR
    rw [if_neg (by simp [hc]), if_neg (by rw [outF.2 ⟨by omega, by omega⟩]; decide)]
  have hb := night_bd (c := t.City) (day := day) (by omega) hz
  have hmem : nightE t.City day ∈ darkL t.City day 4 := by
    have e : darkK t.City day 2 = nightE t.City day := by
      unfold darkK dayK
      have e1 : IntKind.i64.wrap (day - (2 - ((2 : Nat) : Int))) = day := by rw [show day - (2 - ((2 : Nat) : Int)) = day by omega]; exact i64 (by omega)
      have e2 : IntKind.i64.wrap (86400 * (2 - ((2 : Nat) : Int))) = 0 := by decide
      rw [e1, e2, hn]
      unfold Bd at hb
      simp only [Int.sub_zero]
      rw [i64 (by omega), i64 (by omega)]
    rw [← e]
    simp [darkL]
  have hcut := burnS_cuts (darkL t.City day 4) []
  have hasc := cutsL_asc (darkL t.City day 4) []
  have hin := cutsL_in (D := darkL t.City day 4) (ls := [])
  have hends := cuts_ends (darkL t.City day 4) []
  have hnt := cuts_night (ls := []) hmem
  obtain ⟨l, hl⟩ := cuts_cons (darkL t.City day 4) []
  have hburn : ∀ z, (nightE t.City day).On ≤ z → z < (nightE t.City day).Off → (darkL t.City day 4).any (litN z) = true := fun z h1 h2 =>
    List.any_eq_true.2 ⟨_, hmem, by unfold litN; simp [h1, h2]⟩
  unfold dayP
  rw [hcut, hn]
  refine ⟨burnC_nonneg _ hasc, ?_, rfl, hb.1, hb.2, ?_⟩
  · rw [hl] at hasc hin ⊢
    have := burnC_most (fun z => (darkL t.City day 4).any (litN z)) hasc (hi := 86400) fun z hz => (hin z hz).2
    omega
  · rintro a b rfl rfl
    simp only
    generalize nightE t.City day = N at *
    by_cases hab : max 0 N.On ≤ min 86400 N.Off
    · refine burnC_least hasc ?_ ?_ hab fun z h1 h2 => hburn z (by omega) (by omega)
      · by_cases h1 : N.On ≤ 0
        · rw [show max 0 N.On = 0 by omega]; exact hends.1
        · by_cases h2 : N.On ≤ 86399
          · rw [show max 0 N.On = N.On by omega]; exact hnt.1 ⟨by omega, h2⟩
          · rw [show max 0 N.On = 86400 by omega]; exact hends.2
      · by_cases h1 : 86400 ≤ N.Off
        · rw [show min 86400 N.Off = 86400 by omega]; exact hends.2
        · by_cases h2 : 1 ≤ N.Off
          · rw [show min 86400 N.Off = N.Off by omega]; exact hnt.2 ⟨h2, by omega⟩
          · rw [show min 86400 N.Off = 0 by omega]; exact hends.1
    · have := burnC_nonneg (fun z => (darkL t.City day 4).any (litN z)) hasc
      omega
end Go.Proofs.YtblebiafhhhflaaGreat

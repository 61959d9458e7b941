/- Plain laws: how long lamps burn on a day. Plain laws: the energy of a lamp: bounds, and what makes it greater. Plain laws: what is reckoned, and what is metered: exact sums, and their bounds. Plain laws: with the lamps that there are, what is saved is the difference of what is reckoned and metered. Plain laws: with a stronger lamp no end of what is saved is less. -/
import Derived.Test.YtblebiafhhhflaaGreatHp
namespace Go.Proofs.YtblebiafhhhflaaGreat
open Go.RowKit
theorem wrapIn (n : Int) : -9223372036854775808 ≤ IntKind.i64.wrap n ∧ IntKind.i64.wrap n ≤ 9223372036854775807 := by
 rw [IntKind.wrap_i64]; omega
def Bd (m n : Int) : Prop := -m ≤ n ∧ n ≤ m
theorem quot_bd {a : Int} (h : -9223372036854775808 ≤ a ∧ a ≤ 9223372036854775807) : Bd 738000000000000 (quotE a 12500) := by
 have h1 : (a.tdiv 12500).natAbs = a.natAbs / 12500 := Int.natAbs_tdiv a 12500
 unfold quotE Bd
 have e : IntKind.i64.wrap (a.tdiv 12500) = a.tdiv 12500 := i64 (by omega)
 split
 ·rw [e, i64 (by omega)]; omega
 ·rw [e]; omega
theorem scale_bd (x : TEncl) (n : Int) : Bd 738000000000000 (scaleE x n 12500).Lo ∧ Bd 738000000000000 (scaleE x n 12500).Hi := by
 unfold scaleE
 refine ⟨quot_bd (wrapIn _), ?_⟩
 have := quot_bd (wrapIn (IntKind.i64.wrap (0 - n) * x.Hi))
 simp only
 unfold Bd at *
 rw [i64 (by omega)]; omega
theorem move_bd {x : TEncl} {m k n : Int} (h : Bd m x.Lo ∧ Bd m x.Hi) (hn : Bd k n) (hm : m + k ≤ 9000000000000000000) : Bd (m + k) (moveE x n).Lo ∧ Bd (m + k) (moveE x n).Hi := by
 unfold Bd moveE at *
 simp only
 rw [i64 (by omega), i64 (by omega)]; omega
theorem opp_bd {x : TEncl} {m : Int} (h : Bd m x.Lo ∧ Bd m x.Hi) (hm : m ≤ 9000000000000000000) : Bd m (oppE x).Lo ∧ Bd m (oppE x).Hi := by
 unfold Bd oppE at *
 simp only
 rw [i64 (by omega), i64 (by omega)]; omega
theorem day_bd {day : Int} (h : 0 ≤ day ∧ day ≤ 50000) : Bd 5000000000 (IntKind.i64.wrap (86400 * day)) := by
 unfold Bd
 rw [i64 (by omega)]; omega
theorem next_bd {w : TEncl} {h : THalf} {lat : TEncl} (hd : 0 ≤ h.day ∧ h.day ≤ 50000) : Bd 738005000000000 (nextE w h lat).Lo ∧ Bd 738005000000000 (nextE w h lat).Hi := by
 unfold nextE
 exact move_bd (scale_bd _ _) (day_bd hd) (by omega)
theorem window_bd {h : THalf} (hd : 0 ≤ h.day ∧ h.day ≤ 50000) : Bd 738005000100000 (windowE h).Lo ∧ Bd 738005000100000 (windowE h).Hi := by
 have hn : Bd 738005000000000 (noonE h).Lo ∧ Bd 738005000000000 (noonE h).Hi := by
  unfold noonE
  exact move_bd (opp_bd (scale_bd _ _) (by omega)) (day_bd hd) (by omega)
 have key : ∀ {x : TEncl} {a b : Int}, (Bd 738005000000000 x.Lo ∧ Bd 738005000000000 x.Hi) → Bd 44400 a → Bd 44400 b → Bd 738005000100000 (sumE [x, ⟨a, b⟩]).Lo ∧ Bd 738005000100000 (sumE [x, ⟨a, b⟩]).Hi := by
  intro x a b hx ha hb
  unfold Bd at *
  unfold sumE addE'
  simp only [List.foldl_cons, List.foldl_nil, Int.zero_add]
  rw [i64 (n := x.Lo) (by omega), i64 (n := x.Hi) (by omega), i64 (by omega), i64 (by omega)]; omega
 unfold windowE
 split
 ·exact key hn (by unfold Bd; omega) (by unfold Bd; omega)
 ·exact key hn (by unfold Bd; omega) (by unfold Bd; omega)
theorem again_zero {w : TEncl} {h : THalf} {lat : TEncl} (h0 : (againR w h lat).1 = 0) : (againR w h lat).2 = nextE w h lat := by
 unfold againR at h0 ⊢
 split at h0
 ·simp at h0
 split at h0
 ·simp at h0
 split at h0
 ·simp at h0
 split at h0
 ·simp at h0
 ·rename_i h1 h2 h3 h4
  rw [if_neg h1, if_neg h2, if_neg h3, if_neg h4]
theorem pass_next {h : THalf} : ∀ (k : Nat) (kd : Int) (w : TEncl), (passF h (k + 1) kd w).1 = 0 → ∃ w', (passF h (k + 1) kd w).2 = nextE w' h ⟨h.c.Lat, h.c.Lat⟩ := by
 intro k
 induction k with
 | zero =>
  intro kd w h0
  rw [passF_s] at h0 ⊢
  split at h0
  ·rename_i h1; exact absurd h0 h1
  ·rename_i h1
   rw [if_neg h1]
   rw [passF_0] at h0 ⊢
   exact ⟨w, again_zero h0⟩
 | succ k ih =>
  intro kd w h0
  rw [passF_s] at h0 ⊢
  split at h0
  ·rename_i h1; exact absurd h0 h1
  ·rename_i h1
   rw [if_neg h1]
   exact ih _ _ h0
theorem burn_bd {h other : THalf} (hd : 0 ≤ h.day ∧ h.day ≤ 50000) (ho : 0 ≤ other.day ∧ other.day ≤ 50000) : Bd 738005000100000 (burnR h other).1.Lo ∧ Bd 738005000100000 (burnR h other).1.Hi := by
 unfold burnR
 split
 ·rename_i h0
  obtain ⟨w', e⟩ := pass_next 2 0 (windowE h) h0
  have e : (passR h).2 = nextE w' h ⟨h.c.Lat, h.c.Lat⟩ := e
  simp only
  rw [e]
  have := next_bd (w := w') (lat := ⟨h.c.Lat, h.c.Lat⟩) hd
  unfold Bd at *; omega
 ·split
  ·exact window_bd ho
  ·exact window_bd hd
theorem night_bd {c : TSnCity} {day : Int} (hd : 0 ≤ day ∧ day ≤ 49999) (hz : -50400 ≤ c.Zone ∧ c.Zone ≤ 50400) : Bd 740000000000000 (nightE c day).On ∧ Bd 740000000000000 (nightE c day).Off := by
 have e : IntKind.i64.wrap (day + 1) = day + 1 := i64 (by omega)
 have h1 := burn_bd (h := duskH c day) (other := dawnH c day) (by unfold duskH; simp only; omega) (by unfold dawnH; simp only; omega)
 have h2 := burn_bd (h := dawnH c day) (other := duskH c day) (by unfold dawnH; simp only; omega) (by unfold duskH; simp only; omega)
 have hn : Bd 5000100000 (IntKind.i64.wrap (IntKind.i64.wrap (43200 + c.Zone) - IntKind.i64.wrap (86400 * day))) := by
  unfold Bd
  rw [i64 (n := 43200 + c.Zone) (by omega), i64 (n := 86400 * day) (by omega), i64 (by omega)]; omega
 unfold nightE
 split
 ·unfold Bd; simp only; omega
 ·unfold localE
  have := move_bd (x := ⟨(burnR (duskH c day) (dawnH c day)).1.Lo, (burnR (dawnH c day) (duskH c day)).1.Hi⟩) ⟨h1.1, h2.2⟩ hn (by omega)
  unfold Bd at *
  simp only at *
  omega
def burnC (f : Int → Bool) : List Int → Int
 | [] => 0
 | [_] => 0
 | x :: y :: r => (if f x then y - x else 0) + burnC f (y :: r)
theorem partL_cons (D : List TSnNight) (x y : Int) (r : List Int) : partL D (x :: y :: r) = ⟨x, IntKind.i64.wrap (y - x), D.any (litN x)⟩ :: partL D (y :: r) := by
 unfold partL
 simp only [List.length_cons, Nat.add_sub_cancel]
 rw [List.range_succ_eq_map, List.map_cons, List.map_map]
 rfl
theorem burnC_nonneg (f : Int → Bool) : ∀ {l : List Int}, l.Pairwise (· < ·) → 0 ≤ burnC f l
 | [], _ => by unfold burnC; omega
 | [_], _ => by unfold burnC; omega
 | x :: y :: r, h => by
  have h2 := List.pairwise_cons.1 h
  have hxy := h2.1 y List.mem_cons_self
  have := burnC_nonneg f h2.2
  unfold burnC
  split <;> omega
theorem burnC_most (f : Int → Bool) : ∀ {l : List Int} {x hi : Int}, (x :: l).Pairwise (· < ·) → (∀ z ∈ x :: l, z ≤ hi) → burnC f (x :: l) ≤ hi - x
 | [], x, hi, _, h => by have := h x List.mem_cons_self; unfold burnC; omega
 | y :: r, x, hi, h, hh => by
  have h2 := List.pairwise_cons.1 h
  have hxy := h2.1 y List.mem_cons_self
  have := burnC_most f h2.2 fun z hz => hh z (List.mem_cons_of_mem _ hz)
  unfold burnC
  split <;> omega
theorem burnS_eq (D : List TSnNight) : ∀ {l : List Int} {x acc : Int}, (x :: l).Pairwise (· < ·) → (∀ z ∈ x :: l, 0 ≤ z ∧ z ≤ 86400) → 0 ≤ acc → acc ≤ x →
  (partL D (x :: l)).foldl (fun n p => if p.burns then IntKind.i64.wrap (n + p.long) else n) acc = acc + burnC (fun z => D.any (litN z)) (x :: l)
 | [], x, acc, _, _, _, _ => by unfold burnC; simp [partL]
 | y :: r, x, acc, h, hh, h0, hx => by
  have h2 := List.pairwise_cons.1 h
  have hxy := h2.1 y List.mem_cons_self
  have hy := hh y (by simp)
  have hx' := hh x (by simp)
  rw [partL_cons, List.foldl_cons]
  have rest := fun acc' (a : 0 ≤ acc') (b : acc' ≤ y) => burnS_eq D (acc := acc') h2.2 (fun z hz => hh z (List.mem_cons_of_mem _ hz)) a b
  unfold burnC
  simp only
  cases hb : D.any (litN x) with
  | true =>
   simp only [if_true]
   rw [i64 (n := y - x) (by omega), i64 (by omega), rest _ (by omega) (by omega)]
   omega
  | false =>
   simp only [Bool.false_eq_true, if_false]
   rw [rest _ (by omega) (by omega)]
   omega
theorem burnC_from {f : Int → Bool} : ∀ {l : List Int} {x b : Int}, (x :: l).Pairwise (· < ·) → b ∈ x :: l → (∀ z, x ≤ z → z < b → f z = true) → b - x ≤ burnC f (x :: l)
 | [], x, b, _, hb, _ => by
  rw [List.mem_singleton] at hb; subst hb; unfold burnC; omega
 | y :: r, x, b, h, hb, hf => by
  have h2 := List.pairwise_cons.1 h
  have hxy := h2.1 y List.mem_cons_self
  rcases List.mem_cons.1 hb with rfl | hb
  ·have := burnC_nonneg f h; omega
  ·have hxb := h2.1 b hb
   have := burnC_from h2.2 hb fun z h3 h4 => hf z (by omega) h4
   unfold burnC
   rw [if_pos (hf x (by omega) hxb)]
   omega
theorem burnC_least {f : Int → Bool} {a b : Int} : ∀ {l : List Int}, l.Pairwise (· < ·) → a ∈ l → b ∈ l → a ≤ b → (∀ z, a ≤ z → z < b → f z = true) → b - a ≤ burnC f l
 | [], _, ha, _, _, _ => by simp at ha
 | x :: r, h, ha, hb, hab, hf => by
  have h2 := List.pairwise_cons.1 h
  rcases List.mem_cons.1 ha with rfl | ha
  ·exact burnC_from h hb hf
  ·have hxa := h2.1 a ha
   have hb' : b ∈ r := by
    rcases List.mem_cons.1 hb with rfl | hb
    ·omega
    ·exact hb
   have := burnC_least h2.2 ha hb' hab hf
   match r, h, ha, this with
   | y :: r', h, _, this =>
    have hxy := (List.pairwise_cons.1 h).1 y List.mem_cons_self
    unfold burnC
    split <;> omega
theorem addC_keep {z x : Int} {zs : List Int} (h : z ∈ zs) : z ∈ addC zs x := by
 unfold addC
 split
 ·exact h
 ·exact List.mem_append_left _ h
theorem addC_new {x : Int} {zs : List Int} (h : 1 ≤ x ∧ x ≤ 86399) : x ∈ addC zs x := by
 unfold addC
 rw [if_neg (by rw [outF.2 h]; decide)]
 simp
theorem cutD_keep {z : Int} : ∀ (D : List TSnNight) {zs : List Int}, z ∈ zs → z ∈ D.foldl cutN zs
 | [], _, h => h
 | n :: r, _, h => cutD_keep r (addC_keep (addC_keep h))
theorem cutS_keep {z : Int} : ∀ (l : List TMtStep) {zs : List Int}, z ∈ zs → z ∈ cutS zs l
 | [], _, h => h
 | n :: r, _, h => cutS_keep r (addC_keep h)
theorem cutLs_keep {z : Int} : ∀ (ls : List (List TMtStep)) {zs : List Int}, z ∈ zs → z ∈ ls.foldl cutS zs
 | [], _, h => h
 | l :: r, _, h => cutLs_keep r (cutS_keep l h)
theorem cutD_night {n : TSnNight} : ∀ {D : List TSnNight} {zs : List Int}, n ∈ D → (1 ≤ n.On ∧ n.On ≤ 86399 → n.On ∈ D.foldl cutN zs) ∧ (1 ≤ n.Off ∧ n.Off ≤ 86399 → n.Off ∈ D.foldl cutN zs)
 | [], _, h => by simp at h
 | m :: r, zs, h => by
  rcases List.mem_cons.1 h with rfl | h
  ·exact ⟨fun h => cutD_keep r (addC_keep (addC_new h)), fun h => cutD_keep r (addC_new h)⟩
  ·exact cutD_night (zs := cutN zs m) h
theorem cuts_ends (D : List TSnNight) (ls : List (List TMtStep)) : (0 : Int) ∈ cutsL D ls ∧ (86400 : Int) ∈ cutsL D ls :=
 ⟨uniq_mem.2 (cutLs_keep ls (cutD_keep D (by simp))), uniq_mem.2 (cutLs_keep ls (cutD_keep D (by simp)))⟩
theorem cuts_night {D : List TSnNight} {ls : List (List TMtStep)} {n : TSnNight} (h : n ∈ D) : (1 ≤ n.On ∧ n.On ≤ 86399 → n.On ∈ cutsL D ls) ∧ (1 ≤ n.Off ∧ n.Off ≤ 86399 → n.Off ∈ cutsL D ls) :=
 ⟨fun h1 => uniq_mem.2 (cutLs_keep ls ((cutD_night h).1 h1)), fun h1 => uniq_mem.2 (cutLs_keep ls ((cutD_night h).2 h1))⟩
theorem cuts_cons (D : List TSnNight) (ls : List (List TMtStep)) : ∃ l, cutsL D ls = 0 :: l := by
 have h0 := (cuts_ends D ls).1
 have ha := cutsL_asc D ls
 have hi := cutsL_in (D := D) (ls := ls)
 generalize cutsL D ls = l at *
 match l, h0, ha, hi with
 | x :: r, h0, ha, hi =>
  rcases List.mem_cons.1 h0 with rfl | h1
  ·exact ⟨r, rfl⟩
  ·have := (List.pairwise_cons.1 ha).1 0 h1
   have := (hi x List.mem_cons_self).1
   omega
theorem burnS_cuts (D : List TSnNight) (ls : List (List TMtStep)) : burnS (partL D (cutsL D ls)) = burnC (fun z => D.any (litN z)) (cutsL D ls) := by
 obtain ⟨l, hl⟩ := cuts_cons D ls
 have ha := cutsL_asc D ls
 have hi := cutsL_in (D := D) (ls := ls)
 rw [hl] at ha hi ⊢
 have := burnS_eq D ha hi (Int.le_refl 0) (Int.le_refl 0)
 unfold burnS
 rw [this, Int.zero_add]
theorem burns_law {t : TMtTask} {day : Int} (hd : 2 ≤ day ∧ day ≤ 39998) (hc : cityB t.City = false) : 0 ≤ burnS (dayP t day []) ∧ burnS (dayP t day []) ≤ 86400 ∧ (nightR t.City day).2 = 0 ∧
  Bd 740000000000000 (nightR t.City day).1.On ∧ Bd 740000000000000 (nightR t.City day).1.Off ∧
  (∀ a b, a = max 0 (nightR t.City day).1.On → b = min 86400 (nightR t.City day).1.Off → b - a ≤ burnS (dayP t day [])) := by
 have hz : -50400 ≤ t.City.Zone ∧ t.City.Zone ≤ 50400 := by
  unfold cityB at hc
  simp only [Bool.or_eq_false_iff] at hc
  exact outF.1 hc.2.2.1
 have hn : nightR t.City day = (nightE t.City day, 0) := by
  unfold nightR
  rw [if_neg (by simp [hc]), if_neg (by rw [outF.2 ⟨by omega, by omega⟩]; decide)]
 have hb := night_bd (c := t.City) (day := day) (by omega) hz
 have hmem : nightE t.City day ∈ darkL t.City day 4 := by
  have e : darkK t.City day 2 = nightE t.City day := by
   unfold darkK dayK
   have e1 : IntKind.i64.wrap (day - (2 - ((2 : Nat) : Int))) = day := by rw [show day - (2 - ((2 : Nat) : Int)) = day by omega]; exact i64 (by omega)
   have e2 : IntKind.i64.wrap (86400 * (2 - ((2 : Nat) : Int))) = 0 := by decide
   rw [e1, e2, hn]
   unfold Bd at hb
   simp only [Int.sub_zero]
   rw [i64 (by omega), i64 (by omega)]
  rw [← e]
  simp [darkL]
 have hcut := burnS_cuts (darkL t.City day 4) []
 have hasc := cutsL_asc (darkL t.City day 4) []
 have hin := cutsL_in (D := darkL t.City day 4) (ls := [])
 have hends := cuts_ends (darkL t.City day 4) []
 have hnt := cuts_night (ls := []) hmem
 obtain ⟨l, hl⟩ := cuts_cons (darkL t.City day 4) []
 have hburn : ∀ z, (nightE t.City day).On ≤ z → z < (nightE t.City day).Off → (darkL t.City day 4).any (litN z) = true := fun z h1 h2 =>
  List.any_eq_true.2 ⟨_, hmem, by unfold litN; simp [h1, h2]⟩
 unfold dayP
 rw [hcut, hn]
 refine ⟨burnC_nonneg _ hasc, ?_, rfl, hb.1, hb.2, ?_⟩
 ·rw [hl] at hasc hin ⊢
  have := burnC_most (fun z => (darkL t.City day 4).any (litN z)) hasc (hi := 86400) fun z hz => (hin z hz).2
  omega
 ·rintro a b rfl rfl
  simp only
  generalize nightE t.City day = N at *
  by_cases hab : max 0 N.On ≤ min 86400 N.Off
  ·refine burnC_least hasc ?_ ?_ hab fun z h1 h2 => hburn z (by omega) (by omega)
   ·by_cases h1 : N.On ≤ 0
    ·rw [show max 0 N.On = 0 by omega]; exact hends.1
    ·by_cases h2 : N.On ≤ 86399
     ·rw [show max 0 N.On = N.On by omega]; exact hnt.1 ⟨by omega, h2⟩
     ·rw [show max 0 N.On = 86400 by omega]; exact hends.2
   ·by_cases h1 : 86400 ≤ N.Off
    ·rw [show min 86400 N.Off = 86400 by omega]; exact hends.2
    ·by_cases h2 : 1 ≤ N.Off
     ·rw [show min 86400 N.Off = N.Off by omega]; exact hnt.2 ⟨h2, by omega⟩
     ·rw [show min 86400 N.Off = 0 by omega]; exact hends.1
  ·have := burnC_nonneg (fun z => (darkL t.City day 4).any (litN z)) hasc
   omega
end Go.Proofs.YtblebiafhhhflaaGreat
namespace Go.Proofs.YtblebiafhhhflaaGreat
open Go.RowKit
structure LampV (x : TLmLamp) : Prop where
 power : 1 ≤ x.Power ∧ x.Power ≤ 5000000
 standing : 0 ≤ x.Standing ∧ x.Standing ≤ x.Power
 tol : 0 ≤ x.Tolerance ∧ x.Tolerance ≤ 1000
 dim : 0 ≤ x.Dim ∧ x.Dim ≤ 1000
theorem errAt_zero {α : Type} {nm : α → ByteArray} {rest : Nat → α → Int} {l : List α} (h : (firstE (errAt nm rest l) l.length 0).2 = 0) {i : Nat} {x : α} (hx : l[i]? = some x) : nameB (nm x) = true ∧ (l.take i).any (fun y => twinB (nm y) (nm x)) = false ∧ rest i x = 0 := by
 have hl := (List.getElem?_eq_some_iff.1 hx).1
 have h0 := firstE_ok h i (by omega) (by omega)
 rw [errAt_some hx] at h0
 split at h0
 ·simp at h0
 ·rename_i hn
  split at h0
  ·simp at h0
  ·rename_i hh
   exact ⟨by simpa using hn, by simpa using hh, h0⟩
theorem lampV_of {n : Int} {i : Nat} {x : TLmLamp} (h : lampS n i x = 0) : LampV x := by
 unfold lampS at h
 split at h
 ·simp at h
 split at h
 ·simp at h
 split at h
 ·simp at h
 rename_i h3
 have h3 : numB x = true := by simpa using h3
 unfold numB at h3
 simp only [Bool.and_eq_true, inB_iff] at h3
 exact ⟨h3.2.1, h3.2.2.1, h3.2.2.2.1, h3.2.2.2.2.2.2.2.1⟩
theorem cat_lamps {c : TLmCatalog} (h : (catR c).2.2 = 0) : (firstR TLmLamp.Name (lampS (c.Tables.length - 1)) c.Lamps).2 = 0 := by
 unfold catR at h
 split at h
 ·simp at h
 split at h
 ·simp at h
 split at h
 ·rename_i h1; exact absurd h h1
 split at h
 ·rename_i h2; exact absurd h h2
 ·rename_i h2; exact Decidable.byContradiction h2
theorem lamped_ok {c : TLmCatalog} (h : (catR c).2.2 = 0) {i : Int} (h0 : 0 ≤ i) (h1 : i < c.Lamps.length) : lampedR c i = (lampAt c i, 0) ∧ LampV (lampAt c i) ∧ c.Lamps[i.toNat]? = some (lampAt c i) := by
 have e : c.Lamps[i.toNat]? = some (lampAt c i) := by
  unfold lampAt; rw [List.getElem?_eq_getElem (by omega)]; rfl
 refine ⟨?_, lampV_of (errAt_zero (cat_lamps h) e).2.2, e⟩
 unfold lampedR
 rw [if_neg (by simp [h]), if_neg (by rw [inB_iff.2 ⟨h0, by omega⟩]; decide)]
def powA (x : TLmLamp) (lvl : Int) : Int := x.Standing * 1000 + (x.Power - x.Standing) * lvl
theorem powA_bd {x : TLmLamp} (h : LampV x) {lvl : Int} (h0 : 0 ≤ lvl) (h1 : lvl ≤ 1000) : 0 ≤ powA x lvl ∧ powA x lvl ≤ 5000000000 ∧ 0 ≤ (x.Power - x.Standing) * lvl ∧ (x.Power - x.Standing) * lvl ≤ 5000000000 := by
 have hp := h.power
 have hs := h.standing
 have m0 : 0 ≤ (x.Power - x.Standing) * lvl := Int.mul_nonneg (by omega) h0
 have m1 : (x.Power - x.Standing) * lvl ≤ (x.Power - x.Standing) * 1000 := Int.mul_le_mul_of_nonneg_left h1 (by omega)
 unfold powA
 omega
theorem powA_mono {x y : TLmLamp} {a b : Int} (hs : x.Standing = y.Standing) (hp : x.Power ≤ y.Power) (hx : x.Standing ≤ x.Power) (h0 : 0 ≤ a) (hab : a ≤ b) : powA x a ≤ powA y b := by
 have m1 : (x.Power - x.Standing) * a ≤ (x.Power - x.Standing) * b := Int.mul_le_mul_of_nonneg_left hab (by omega)
 have m2 : (x.Power - x.Standing) * b ≤ (y.Power - y.Standing) * b := Int.mul_le_mul_of_nonneg_right (by omega) (by omega)
 unfold powA
 omega
theorem floorE_val {a : Int} (h : -9000000000000000000 ≤ a ∧ a ≤ 9000000000000000000) : floorE a 1000000 = a / 1000000 := by
 have h2 : a.tmod 1000000 = a - 1000000 * a.tdiv 1000000 := by have := Int.tmod_add_mul_tdiv a 1000000; omega
 unfold floorE
 rw [h2]
 by_cases h0 : 0 ≤ a
 ·have h1 : a.tdiv 1000000 = a / 1000000 := Int.tdiv_eq_ediv_of_nonneg h0
  rw [h1, if_neg (by omega), i64 (by omega)]
 ·have h1 : a.tdiv 1000000 = -((-a) / 1000000) := by
   obtain ⟨b, rfl⟩ : ∃ b, a = -b := ⟨-a, by omega⟩
   rw [Int.neg_tdiv, Int.tdiv_eq_ediv_of_nonneg (by omega), Int.neg_neg]
  rw [h1, i64 (n := -((-a) / 1000000)) (by omega)]
  split
  ·rw [i64 (by omega)]; omega
  ·omega
theorem ceilE_val {a : Int} (h : 0 ≤ a ∧ a ≤ 9000000000000000000) : ceilE a 1000000 = -((-a) / 1000000) := by
 unfold ceilE
 rw [show (0 : Int) - a = -a by omega, i64 (n := -a) (by omega), floorE_val (by omega), show (0 : Int) - -a / 1000000 = -(-a / 1000000) by omega, i64 (by omega)]
theorem powerE_val {x : TLmLamp} (h : LampV x) {lvl : Int} (h0 : 0 ≤ lvl) (h1 : lvl ≤ 1000) : powerE x lvl = ⟨(powA x lvl * (1000 - x.Tolerance)) / 1000000, -((-(powA x lvl * (1000 + x.Tolerance))) / 1000000)⟩ ∧
  0 ≤ powA x lvl * (1000 - x.Tolerance) ∧ powA x lvl * (1000 - x.Tolerance) ≤ 5000000000000 ∧ 0 ≤ powA x lvl * (1000 + x.Tolerance) ∧ powA x lvl * (1000 + x.Tolerance) ≤ 10000000000000 := by
 have hp := h.power
 have hs := h.standing
 have ht := h.tol
 obtain ⟨b0, b1, b2, b3⟩ := powA_bd h h0 h1
 have m0 : 0 ≤ powA x lvl * (1000 - x.Tolerance) := Int.mul_nonneg b0 (by omega)
 have m1 : powA x lvl * (1000 - x.Tolerance) ≤ powA x lvl * 1000 := Int.mul_le_mul_of_nonneg_left (by omega) b0
 have m2 : 0 ≤ powA x lvl * (1000 + x.Tolerance) := Int.mul_nonneg b0 (by omega)
 have m3 : powA x lvl * (1000 + x.Tolerance) ≤ powA x lvl * 2000 := Int.mul_le_mul_of_nonneg_left (by omega) b0
 refine ⟨?_, m0, by omega, m2, by omega⟩
 unfold powerE
 rw [i64 (n := x.Standing * 1000) (by omega), i64 (n := x.Power - x.Standing) (by omega), i64 (n := (x.Power - x.Standing) * lvl) (by omega)]
 have e : x.Standing * 1000 + (x.Power - x.Standing) * lvl = powA x lvl := rfl
 rw [e, i64 (n := powA x lvl) (by omega), i64 (n := 1000 - x.Tolerance) (by omega), i64 (n := 1000 + x.Tolerance) (by omega)]
 generalize powA x lvl * (1000 - x.Tolerance) = p at *
 generalize powA x lvl * (1000 + x.Tolerance) = q at *
 rw [i64 (n := p) (by omega), i64 (n := q) (by omega), floorE_val (by omega), ceilE_val (by omega)]
def leE (x y : TEncl) : Prop := x.Lo ≤ y.Lo ∧ x.Hi ≤ y.Hi
theorem powerE_bd {x : TLmLamp} (h : LampV x) {lvl : Int} (h0 : 0 ≤ lvl) (h1 : lvl ≤ 1000) : 0 ≤ (powerE x lvl).Lo ∧ (powerE x lvl).Lo ≤ (powerE x lvl).Hi ∧ (powerE x lvl).Hi ≤ 10000000 := by
 obtain ⟨e, b0, b1, b2, b3⟩ := powerE_val h h0 h1
 have ht := h.tol
 have hm : powA x lvl * (1000 - x.Tolerance) ≤ powA x lvl * (1000 + x.Tolerance) := Int.mul_le_mul_of_nonneg_left (by omega) (powA_bd h h0 h1).1
 rw [e]
 simp only
 omega
theorem powerE_mono {x y : TLmLamp} (hx : LampV x) (hy : LampV y) {a b : Int} (hs : x.Standing = y.Standing) (hp : x.Power ≤ y.Power) (ht : x.Tolerance = y.Tolerance) (h0 : 0 ≤ a) (hab : a ≤ b) (h1 : b ≤ 1000) : leE (powerE x a) (powerE y b) := by
 have e1 := (powerE_val hx h0 (by omega)).1
 have e2 := (powerE_val hy (lvl := b) (by omega) h1).1
 have hm := powA_mono hs hp hx.standing.2 h0 hab
 have htol := hy.tol
 have m1 : powA x a * (1000 - x.Tolerance) ≤ powA y b * (1000 - y.Tolerance) := by rw [ht]; exact Int.mul_le_mul_of_nonneg_right hm (by omega)
 have m2 : powA x a * (1000 + x.Tolerance) ≤ powA y b * (1000 + y.Tolerance) := by rw [ht]; exact Int.mul_le_mul_of_nonneg_right hm (by omega)
 rw [e1, e2]
 unfold leE
 simp only
 omega
theorem levelE_bd {x : TLmLamp} (h : LampV x) (w : Int) : 1 ≤ levelE x w ∧ levelE x w ≤ 1000 := by
 have := h.dim
 unfold levelE maxI
 split <;> split <;> omega
theorem levelE_mono {x y : TLmLamp} (hd : x.Dim = y.Dim) {a b : Int} (h : a ≤ b) : levelE x a ≤ levelE y b := by
 unfold levelE maxI
 rw [hd]
 repeat' split
 all_goals omega
def levV (x : TLmLamp) (w : Int) : Int := if w ≤ 0 then 0 else levelE x w
theorem levV_bd {x : TLmLamp} (h : LampV x) (w : Int) : 0 ≤ levV x w ∧ levV x w ≤ 1000 := by
 have := levelE_bd h w
 unfold levV
 split <;> omega
theorem levV_mono {x y : TLmLamp} (hy : LampV y) (hd : x.Dim = y.Dim) {a b : Int} (h : a ≤ b) : levV x a ≤ levV y b := by
 have h1 := levelE_mono hd h
 have h2 := levelE_bd hy b
 unfold levV
 split <;> split <;> omega
def useP (x : TLmLamp) (l : List TMtStep) (p : Part) : TEncl := powerE x (if p.burns then levV x (wantAt l p.from') else 0)
theorem powAt_val {t : TMtTask} {x : TMtItem} (hc : (catR t.Catalog).2.2 = 0) (hl : 0 ≤ x.Lamp ∧ x.Lamp < t.Catalog.Lamps.length) (p : Part) : powAt t x p = useP (lampAt t.Catalog x.Lamp) (profAt t x.Profile).Steps p ∧ LampV (lampAt t.Catalog x.Lamp) := by
 obtain ⟨h1, h2, _⟩ := lamped_ok hc hl.1 hl.2
 refine ⟨?_, h2⟩
 have e : levAt t x p = if p.burns then levV (lampAt t.Catalog x.Lamp) (wantAt (profAt t x.Profile).Steps p.from') else 0 := by
  unfold levAt
  split
  ·unfold levelR levV
   rw [h1]
   simp only [ne_eq, not_true_eq_false, if_false]
   split <;> rfl
  ·rfl
 have hb : inB (levAt t x p) 0 1000 = true := by
  rw [e, inB_iff]
  split
  ·exact levV_bd h2 _
  ·omega
 unfold powAt powerR
 rw [h1, if_neg (by simp), if_neg (by rw [hb]; decide), e]; rfl
theorem useP_bd {x : TLmLamp} (h : LampV x) (l : List TMtStep) (p : Part) : 0 ≤ (useP x l p).Lo ∧ (useP x l p).Lo ≤ (useP x l p).Hi ∧ (useP x l p).Hi ≤ 10000000 := by
 unfold useP
 split
 ·have := levV_bd h (wantAt l p.from'); exact powerE_bd h this.1 this.2
 ·exact powerE_bd h (by omega) (by omega)
def sumP (f : Part → Int) : List Part → Int
 | [] => 0
 | p :: r => p.long * f p + sumP f r
theorem sumP_mono {f g : Part → Int} : ∀ {l : List Part}, (∀ p ∈ l, 0 ≤ p.long ∧ f p ≤ g p) → sumP f l ≤ sumP g l
 | [], _ => Int.le_refl _
 | p :: r, h => by
  have h1 := h p List.mem_cons_self
  have h2 := sumP_mono fun q hq => h q (List.mem_cons_of_mem _ hq)
  have h3 : p.long * f p ≤ p.long * g p := Int.mul_le_mul_of_nonneg_left h1.2 h1.1
  unfold sumP
  omega
theorem sumP_const {c : Int} : ∀ {l : List Part}, sumP (fun _ => c) l = c * sumP (fun _ => 1) l
 | [] => by unfold sumP; simp
 | p :: r => by
  unfold sumP
  rw [sumP_const (l := r), Int.mul_add, Int.mul_one, Int.mul_comm]
theorem fold_val {t : TMtTask} {x : TMtItem} {w : Part → TEncl} (hw : ∀ p, powAt t x p = w p) (hb : ∀ p, 0 ≤ (w p).Lo ∧ (w p).Lo ≤ (w p).Hi ∧ (w p).Hi ≤ 10000000) : ∀ {l : List Part} {s : TSum}, (∀ p ∈ l, 0 ≤ p.long) → 0 ≤ s.Encl.Lo → 0 ≤ s.Encl.Hi →
  s.Encl.Lo + 10000000 * sumP (fun _ => 1) l ≤ 4000000000000000000 → s.Encl.Hi + 10000000 * sumP (fun _ => 1) l ≤ 4000000000000000000 → l.foldl (partS t x) s = ⟨⟨s.Encl.Lo + sumP (fun p => (w p).Lo) l, s.Encl.Hi + sumP (fun p => (w p).Hi) l⟩⟩
 | [], s, _, _, _, _, _ => by unfold sumP; simp only [List.foldl_nil, Int.add_zero]
 | p :: r, s, hl, h0, h1, h2, h3 => by
  have hp := hl p List.mem_cons_self
  have hwp := hb p
  have hr : 0 ≤ sumP (fun _ => 1) r := by
   have := sumP_mono (f := fun _ => 0) (g := fun _ => 1) (l := r) fun q hq => ⟨hl q (List.mem_cons_of_mem _ hq), by omega⟩
   rw [sumP_const, Int.zero_mul] at this; exact this
  unfold sumP at h2 h3 ⊢
  have m0 : 0 ≤ p.long * (w p).Lo := Int.mul_nonneg hp hwp.1
  have m1 : 0 ≤ p.long * (w p).Hi := Int.mul_nonneg hp (by omega)
  have m2 : p.long * (w p).Lo ≤ p.long * 10000000 := Int.mul_le_mul_of_nonneg_left (by omega) hp
  have m3 : p.long * (w p).Hi ≤ p.long * 10000000 := Int.mul_le_mul_of_nonneg_left (by omega) hp
  have e : partS t x s p = ⟨⟨s.Encl.Lo + p.long * (w p).Lo, s.Encl.Hi + p.long * (w p).Hi⟩⟩ := by
   unfold partS addS
   rw [hw p]
   generalize p.long * (w p).Lo = u at *
   generalize p.long * (w p).Hi = v at *
   rw [i64 (n := u) (by omega), i64 (n := v) (by omega), i64 (by omega), i64 (by omega)]
  rw [List.foldl_cons, e, fold_val hw hb (l := r) (fun q hq => hl q (List.mem_cons_of_mem _ hq)) (by simp only; omega) (by simp only; omega) (by simp only; omega) (by simp only; omega)]
  simp only
  rw [Int.add_assoc, Int.add_assoc]
theorem partL_long (D : List TSnNight) : ∀ {l : List Int} {x : Int}, (x :: l).Pairwise (· < ·) → (∀ z ∈ x :: l, 0 ≤ z ∧ z ≤ 86400) → (∀ p ∈ partL D (x :: l), 0 ≤ p.long) ∧ 0 ≤ sumP (fun _ => 1) (partL D (x :: l)) ∧ sumP (fun _ => 1) (partL D (x :: l)) ≤ 86400 - x
 | [], x, _, hh => by
  have := hh x (by simp)
  simp [partL, sumP]; omega
 | y :: r, x, h, hh => by
  have h2 := List.pairwise_cons.1 h
  have hxy := h2.1 y List.mem_cons_self
  have hy := hh y (by simp)
  have hx' := hh x (by simp)
  obtain ⟨k1, k2, k3⟩ := partL_long D h2.2 fun z hz => hh z (List.mem_cons_of_mem _ hz)
  have e : IntKind.i64.wrap (y - x) = y - x := i64 (by omega)
  rw [partL_cons, e]
  refine ⟨fun p hp => ?_, ?_, ?_⟩
  ·rcases List.mem_cons.1 hp with rfl | hp
   ·simp only; omega
   ·exact k1 p hp
  ·unfold sumP; simp only; omega
  ·unfold sumP; simp only; omega
theorem dayP_long (t : TMtTask) (day : Int) (ls : List (List TMtStep)) : (∀ p ∈ dayP t day ls, 0 ≤ p.long) ∧ 0 ≤ sumP (fun _ => 1) (dayP t day ls) ∧ sumP (fun _ => 1) (dayP t day ls) ≤ 86400 := by
 obtain ⟨l, hl⟩ := cuts_cons (darkL t.City day 4) ls
 have ha := cutsL_asc (darkL t.City day 4) ls
 have hi := cutsL_in (D := darkL t.City day 4) (ls := ls)
 unfold dayP
 rw [hl] at ha hi ⊢
 have := partL_long (darkL t.City day 4) ha hi
 exact ⟨this.1, this.2.1, by omega⟩
def oneE (x : TLmLamp) (l : List TMtStep) (ps : List Part) : TEncl := ⟨sumP (fun p => (useP x l p).Lo) ps, sumP (fun p => (useP x l p).Hi) ps⟩
theorem oneE_bd {x : TLmLamp} (h : LampV x) (l : List TMtStep) {ps : List Part} (hl : ∀ p ∈ ps, 0 ≤ p.long) (h1 : sumP (fun _ => 1) ps ≤ 86400) : 0 ≤ (oneE x l ps).Lo ∧ (oneE x l ps).Lo ≤ (oneE x l ps).Hi ∧ (oneE x l ps).Hi ≤ 864000000000 := by
 refine ⟨?_, sumP_mono fun p hp => ⟨hl p hp, (useP_bd h l p).2.1⟩, ?_⟩
 ·have := sumP_mono (f := fun _ => 0) (g := fun p => (useP x l p).Lo) (l := ps) fun p hp => ⟨hl p hp, (useP_bd h l p).1⟩
  rw [sumP_const, Int.zero_mul] at this; exact this
 ·have := sumP_mono (f := fun p => (useP x l p).Hi) (g := fun _ => 10000000) (l := ps) fun p hp => ⟨hl p hp, (useP_bd h l p).2.2⟩
  rw [sumP_const] at this
  have e : (oneE x l ps).Hi = sumP (fun p => (useP x l p).Hi) ps := rfl
  omega
theorem oneS_val {t : TMtTask} {x : TMtItem} (hc : (catR t.Catalog).2.2 = 0) (hl : 0 ≤ x.Lamp ∧ x.Lamp < t.Catalog.Lamps.length) (day : Int) :
  oneS t x day = if goneB x day then sum0 else ⟨oneE (lampAt t.Catalog x.Lamp) (profAt t x.Profile).Steps (dayP t day [(profAt t x.Profile).Steps])⟩ := by
 have hv := (powAt_val hc hl ⟨0, 0, false⟩).2
 have hd := dayP_long t day [(profAt t x.Profile).Steps]
 unfold oneS
 split
 ·rfl
 ·rw [fold_val (w := useP (lampAt t.Catalog x.Lamp) (profAt t x.Profile).Steps) (fun p => (powAt_val hc hl p).1) (useP_bd hv _) hd.1 (by unfold sum0; simp) (by unfold sum0; simp) (by unfold sum0; simp only; omega) (by unfold sum0; simp only; omega)]
  unfold sum0 oneE
  simp only [Int.zero_add]
theorem oneS_bd {t : TMtTask} {x : TMtItem} (hc : (catR t.Catalog).2.2 = 0) (hl : 0 ≤ x.Lamp ∧ x.Lamp < t.Catalog.Lamps.length) (day : Int) : 0 ≤ (oneS t x day).Encl.Lo ∧ (oneS t x day).Encl.Lo ≤ (oneS t x day).Encl.Hi ∧ (oneS t x day).Encl.Hi ≤ 864000000000 := by
 rw [oneS_val hc hl]
 split
 ·decide
 ·have hd := dayP_long t day [(profAt t x.Profile).Steps]
  exact oneE_bd (powAt_val hc hl ⟨0, 0, false⟩).2 _ hd.1 hd.2.2
theorem oneE_mono {x y : TLmLamp} (hx : LampV x) (hy : LampV y) (hs : x.Standing = y.Standing) (hp : x.Power ≤ y.Power) (ht : x.Tolerance = y.Tolerance) (hd : x.Dim = y.Dim) {l m : List TMtStep} (hlm : ∀ s, wantAt l s ≤ wantAt m s) {ps : List Part} (hl : ∀ p ∈ ps, 0 ≤ p.long) : leE (oneE x l ps) (oneE y m ps) := by
 have key : ∀ p, leE (useP x l p) (useP y m p) := by
  intro p
  unfold useP
  split
  ·exact powerE_mono hx hy hs hp ht (levV_bd hx _).1 (levV_mono hy hd (hlm _)) (levV_bd hy _).2
  ·exact powerE_mono hx hy hs hp ht (by omega) (by omega) (by omega)
 exact ⟨sumP_mono fun p hp => ⟨hl p hp, (key p).1⟩, sumP_mono fun p hp => ⟨hl p hp, (key p).2⟩⟩
theorem energyE_exact {t : TMtTask} {x : TMtItem} (hv : TaskV t) (hx : x ∈ t.Items) (day : Int) : energyE t x day = ⟨x.Count * (oneS t x day).Encl.Lo, x.Count * (oneS t x day).Encl.Hi⟩ := by
 have hi := hv.item hx
 have hb := oneS_bd hv.cat hi.lamp day
 have hc := hi.count
 have m0 : 0 ≤ x.Count * (oneS t x day).Encl.Lo := Int.mul_nonneg (by omega) hb.1
 have m1 : 0 ≤ x.Count * (oneS t x day).Encl.Hi := Int.mul_nonneg (by omega) (by omega)
 have m2 : x.Count * (oneS t x day).Encl.Hi ≤ 1000 * (oneS t x day).Encl.Hi := Int.mul_le_mul_of_nonneg_right hc.2 (by omega)
 have m3 : x.Count * (oneS t x day).Encl.Lo ≤ x.Count * (oneS t x day).Encl.Hi := Int.mul_le_mul_of_nonneg_left hb.2.1 (by omega)
 rw [energyE_val]
 generalize x.Count * (oneS t x day).Encl.Lo = u at *
 generalize x.Count * (oneS t x day).Encl.Hi = v at *
 rw [i64 (by omega), i64 (by omega)]
end Go.Proofs.YtblebiafhhhflaaGreat
namespace Go.Proofs.YtblebiafhhhflaaGreat
open Go.RowKit
theorem addS_exact {s : TSum} {x : TEncl} {n : Int} (h1 : -4000000000000000000 ≤ s.Encl.Lo ∧ s.Encl.Lo ≤ 4000000000000000000) (h2 : -4000000000000000000 ≤ s.Encl.Hi ∧ s.Encl.Hi ≤ 4000000000000000000)
  (h3 : -4000000000000000000 ≤ n * x.Lo ∧ n * x.Lo ≤ 4000000000000000000) (h4 : -4000000000000000000 ≤ n * x.Hi ∧ n * x.Hi ≤ 4000000000000000000) : addS s x n = ⟨⟨s.Encl.Lo + n * x.Lo, s.Encl.Hi + n * x.Hi⟩⟩ := by
 unfold addS
 generalize n * x.Lo = a at *
 generalize n * x.Hi = b at *
 rw [i64 (n := a) (by omega), i64 (n := b) (by omega), i64 (by omega), i64 (by omega)]
structure Lit (t : TMtTask) (x : TMtItem) : Prop where
 cat : (catR t.Catalog).2.2 = 0
 lamp : 0 ≤ x.Lamp ∧ x.Lamp < t.Catalog.Lamps.length
theorem lampsS_s (t : TMtTask) (x : TMtItem) (first : Int) (k : Nat) : lampsS t x first (k + 1) = addS (lampsS t x first k) (oneS t x (IntKind.i64.wrap (first + (k : Nat)))).Encl 1 := rfl
theorem lampsS_step {t : TMtTask} {x : TMtItem} (h : Lit t x) (first : Int) : ∀ k : Nat, k ≤ 1000 → (0 ≤ (lampsS t x first k).Encl.Lo ∧ (lampsS t x first k).Encl.Lo ≤ (lampsS t x first k).Encl.Hi ∧ (lampsS t x first k).Encl.Hi ≤ k * 864000000000) ∧
  lampsS t x first (k + 1) = ⟨⟨(lampsS t x first k).Encl.Lo + (oneS t x (IntKind.i64.wrap (first + (k : Nat)))).Encl.Lo, (lampsS t x first k).Encl.Hi + (oneS t x (IntKind.i64.wrap (first + (k : Nat)))).Encl.Hi⟩⟩ := by
 intro k
 have step : ∀ k : Nat, k ≤ 1000 → (0 ≤ (lampsS t x first k).Encl.Lo ∧ (lampsS t x first k).Encl.Lo ≤ (lampsS t x first k).Encl.Hi ∧ (lampsS t x first k).Encl.Hi ≤ k * 864000000000) →
   lampsS t x first (k + 1) = ⟨⟨(lampsS t x first k).Encl.Lo + (oneS t x (IntKind.i64.wrap (first + (k : Nat)))).Encl.Lo, (lampsS t x first k).Encl.Hi + (oneS t x (IntKind.i64.wrap (first + (k : Nat)))).Encl.Hi⟩⟩ := by
  intro k hk hb
  have ho := oneS_bd h.cat h.lamp (IntKind.i64.wrap (first + (k : Nat)))
  rw [lampsS_s]
  generalize lampsS t x first k = s at *
  generalize (oneS t x (IntKind.i64.wrap (first + (k : Nat)))).Encl = e at *
  rw [addS_exact (by omega) (by omega) (by omega) (by omega), Int.one_mul, Int.one_mul]
 induction k with
 | zero =>
  intro hk
  have hb : 0 ≤ (lampsS t x first 0).Encl.Lo ∧ (lampsS t x first 0).Encl.Lo ≤ (lampsS t x first 0).Encl.Hi ∧ (lampsS t x first 0).Encl.Hi ≤ (0 : Nat) * 864000000000 := by unfold lampsS sum0; simp
  exact ⟨hb, step 0 hk hb⟩
 | succ k ih =>
  intro hk
  obtain ⟨hb, he⟩ := ih (by omega)
  have ho := oneS_bd h.cat h.lamp (IntKind.i64.wrap (first + (k : Nat)))
  have hb' : 0 ≤ (lampsS t x first (k + 1)).Encl.Lo ∧ (lampsS t x first (k + 1)).Encl.Lo ≤ (lampsS t x first (k + 1)).Encl.Hi ∧ (lampsS t x first (k + 1)).Encl.Hi ≤ ((k + 1 : Nat) : Int) * 864000000000 := by
   rw [he]; simp only; omega
  exact ⟨hb', step (k + 1) hk hb'⟩
theorem lampsS_bd {t : TMtTask} {x : TMtItem} (h : Lit t x) (first : Int) {k : Nat} (hk : k ≤ 200) : 0 ≤ (lampsS t x first k).Encl.Lo ∧ (lampsS t x first k).Encl.Lo ≤ (lampsS t x first k).Encl.Hi ∧ (lampsS t x first k).Encl.Hi ≤ 172800000000000 := by
 have := (lampsS_step h first k (by omega)).1
 omega
def sumL (f : TMtItem → Int) : List TMtItem → Int
 | [] => 0
 | x :: r => f x + sumL f r
theorem sumL_mono {f g : TMtItem → Int} : ∀ {l : List TMtItem}, (∀ x ∈ l, f x ≤ g x) → sumL f l ≤ sumL g l
 | [], _ => Int.le_refl _
 | x :: r, h => by
  have h1 := h x List.mem_cons_self
  have h2 := sumL_mono fun y hy => h y (List.mem_cons_of_mem _ hy)
  unfold sumL; omega
theorem sumL_set {f : TMtItem → Int} : ∀ {l : List TMtItem} {i : Nat} {x y : TMtItem}, l[i]? = some x → sumL f (l.set i y) = sumL f l - f x + f y
 | [], i, x, y, h => by simp at h
 | z :: r, 0, x, y, h => by
  simp only [List.getElem?_cons_zero, Option.some.injEq] at h
  subst h
  rw [List.set_cons_zero]; unfold sumL; omega
 | z :: r, i + 1, x, y, h => by
  simp only [List.getElem?_cons_succ] at h
  rw [List.set_cons_succ]; unfold sumL; rw [sumL_set h]; omega
theorem sumL_congr {f g : TMtItem → Int} : ∀ {l : List TMtItem}, (∀ x ∈ l, f x = g x) → sumL f l = sumL g l
 | [], _ => rfl
 | x :: r, h => by
  unfold sumL; rw [h x List.mem_cons_self, sumL_congr fun y hy => h y (List.mem_cons_of_mem _ hy)]
def recX (t : TMtTask) (meter first : Int) (k : Nat) (x : TMtItem) : TEncl := if x.Meter == meter then ⟨x.Count * (lampsS t x first k).Encl.Lo, x.Count * (lampsS t x first k).Encl.Hi⟩ else ⟨0, 0⟩
theorem recX_bd {t : TMtTask} {x : TMtItem} (h : Lit t x) (hc : 0 ≤ x.Count ∧ x.Count ≤ 1000) (meter first : Int) {k : Nat} (hk : k ≤ 200) : 0 ≤ (recX t meter first k x).Lo ∧ (recX t meter first k x).Lo ≤ (recX t meter first k x).Hi ∧ (recX t meter first k x).Hi ≤ 172800000000000000 := by
 have hb := lampsS_bd h first hk
 unfold recX
 split
 ·have m1 : 0 ≤ x.Count * (lampsS t x first k).Encl.Lo := Int.mul_nonneg hc.1 hb.1
  have m2 : x.Count * (lampsS t x first k).Encl.Lo ≤ x.Count * (lampsS t x first k).Encl.Hi := Int.mul_le_mul_of_nonneg_left hb.2.1 hc.1
  have m3 : x.Count * (lampsS t x first k).Encl.Hi ≤ 1000 * (lampsS t x first k).Encl.Hi := Int.mul_le_mul_of_nonneg_right hc.2 (by omega)
  simp only; omega
 ·simp
theorem recF_val {t : TMtTask} (meter first : Int) {k : Nat} (hk : k ≤ 200) : ∀ {l : List TMtItem} {s : TSum}, (∀ x ∈ l, Lit t x ∧ 0 ≤ x.Count ∧ x.Count ≤ 1000) → 0 ≤ s.Encl.Lo → s.Encl.Lo ≤ s.Encl.Hi → s.Encl.Hi + l.length * 172800000000000000 ≤ 3500000000000000000 →
  l.foldl (recS t meter first k) s = ⟨⟨s.Encl.Lo + sumL (fun x => (recX t meter first k x).Lo) l, s.Encl.Hi + sumL (fun x => (recX t meter first k x).Hi) l⟩⟩
 | [], s, _, _, _, _ => by unfold sumL; simp only [List.foldl_nil, Int.add_zero]
 | x :: r, s, hl, h0, h1, h2 => by
  obtain ⟨hx, hc⟩ := hl x List.mem_cons_self
  have hb := recX_bd hx hc meter first hk
  rw [List.length_cons] at h2
  have e : recS t meter first k s x = ⟨⟨s.Encl.Lo + (recX t meter first k x).Lo, s.Encl.Hi + (recX t meter first k x).Hi⟩⟩ := by
   unfold recX at hb ⊢
   unfold recS
   split
   ·rename_i hm
    rw [if_pos hm] at hb
    simp only at hb
    rw [addS_exact (by omega) (by omega) (by omega) (by omega)]
   ·simp only [Int.add_zero]
  rw [List.foldl_cons, e, recF_val meter first hk (fun y hy => hl y (List.mem_cons_of_mem _ hy)) (by simp only; omega) (by simp only; omega) (by simp only; omega)]
  simp only [sumL]
  rw [Int.add_assoc, Int.add_assoc]
structure AllLit (t : TMtTask) : Prop where
 lit : ∀ x ∈ t.Items, Lit t x ∧ 0 ≤ x.Count ∧ x.Count ≤ 1000
 few : t.Items.length ≤ 20
theorem TaskV.allLit {t : TMtTask} (h : TaskV t) : AllLit t := ⟨fun x hx => by
 have hi := h.item hx
 have := hi.count
 exact ⟨⟨h.cat, hi.lamp⟩, by omega, by omega⟩, h.ni⟩
theorem reckS_val {t : TMtTask} (h : AllLit t) (meter first : Int) {k : Nat} (hk : k ≤ 200) : reckS t meter first k = ⟨⟨sumL (fun x => (recX t meter first k x).Lo) t.Items, sumL (fun x => (recX t meter first k x).Hi) t.Items⟩⟩ ∧
  0 ≤ (reckS t meter first k).Encl.Lo ∧ (reckS t meter first k).Encl.Lo ≤ (reckS t meter first k).Encl.Hi ∧ (reckS t meter first k).Encl.Hi ≤ 3456000000000000000 := by
 have e : reckS t meter first k = ⟨⟨sumL (fun x => (recX t meter first k x).Lo) t.Items, sumL (fun x => (recX t meter first k x).Hi) t.Items⟩⟩ := by
  unfold reckS
  rw [recF_val meter first hk h.lit (by unfold sum0; simp) (by unfold sum0; simp) (by have := h.few; unfold sum0; simp only; omega)]
  unfold sum0
  simp only [Int.zero_add]
 have zero : ∀ l : List TMtItem, sumL (fun _ => 0) l = 0 := by
  intro l; induction l with
  | nil => rfl
  | cons x r ih => unfold sumL; rw [ih]; rfl
 have top : ∀ l : List TMtItem, sumL (fun _ => 172800000000000000) l = l.length * 172800000000000000 := by
  intro l; induction l with
  | nil => rfl
  | cons x r ih => unfold sumL; rw [ih, List.length_cons]; omega
 refine ⟨e, ?_⟩
 rw [e]
 have b := fun x hx => recX_bd (h.lit x hx).1 (h.lit x hx).2 meter first hk
 have m0 := sumL_mono (f := fun _ => 0) (g := fun x => (recX t meter first k x).Lo) fun x hx => (b x hx).1
 have m1 := sumL_mono (f := fun x => (recX t meter first k x).Lo) (g := fun x => (recX t meter first k x).Hi) fun x hx => (b x hx).2.1
 have m2 := sumL_mono (f := fun x => (recX t meter first k x).Hi) (g := fun _ => 172800000000000000) fun x hx => (b x hx).2.2
 rw [zero] at m0
 rw [top] at m2
 have := h.few
 simp only
 omega
theorem hoursE_val {s : TSum} (h0 : 0 ≤ s.Encl.Lo) (h1 : s.Encl.Lo ≤ s.Encl.Hi) (h2 : s.Encl.Hi ≤ 3456000000000000000) : hoursE s = ⟨s.Encl.Lo / 3600, (s.Encl.Hi + 3599) / 3600⟩ := by
 unfold hoursE
 rw [i64 (n := s.Encl.Hi + 3599) (by omega), Int.tdiv_eq_ediv_of_nonneg h0, Int.tdiv_eq_ediv_of_nonneg (by omega), i64 (by omega), i64 (by omega)]
theorem useU_val {p : TPair} (h : PairV p) : 0 ≤ useU p ∧ useU p < p.MtMeter.Modulus := by
 have hm := h.meter.modulus
 have ha := h.va
 have hb := h.vb
 unfold useU
 rw [i64 (n := p.b.Value - p.a.Value) (by omega), i64 (by omega), Int.tmod_eq_emod_of_nonneg (by omega)]
 exact ⟨Int.emod_nonneg _ (by omega), Int.emod_lt_of_pos _ (by omega)⟩
theorem metE_bd {p : TPair} (h : PairV p) : 0 ≤ (metE p).Lo ∧ (metE p).Lo ≤ (metE p).Hi ∧ (metE p).Hi ≤ 1200000000000000 := by
 have hu := useU_val h
 have hm := h.meter.modulus
 have hs := h.meter.step
 have he := h.meter.error
 unfold metE
 generalize useU p = u at *
 generalize p.MtMeter.Step = st at *
 generalize p.MtMeter.Error = er at *
 rw [i64 (n := u - 1) (by omega), i64 (n := u + 1) (by omega), i64 (n := 1000 + er) (by omega), i64 (n := 1000 - er) (by omega)]
 obtain ⟨v, hv⟩ : ∃ v, v = if u - 1 > 0 then u - 1 else 0 := ⟨_, rfl⟩
 rw [← hv]
 have hv2 : 0 ≤ v ∧ v ≤ u + 1 ∧ v ≤ 1000000000 := by rw [hv]; split <;> omega
 have m1 : 0 ≤ v * st := Int.mul_nonneg hv2.1 (by omega)
 have m2 : v * st ≤ (u + 1) * st := Int.mul_le_mul_of_nonneg_right hv2.2.1 (by omega)
 have m3 : (u + 1) * st ≤ 1000000000 * st := Int.mul_le_mul_of_nonneg_right (by omega) (by omega)
 generalize v * st = a at *
 generalize (u + 1) * st = b at *
 rw [i64 (n := a) (by omega), i64 (n := a * 1000) (by omega), i64 (n := b) (by omega), i64 (n := b * 1000) (by omega), i64 (n := b * 1000 + (1000 - er)) (by omega), i64 (n := b * 1000 + (1000 - er) - 1) (by omega),
  Int.tdiv_eq_ediv_of_nonneg (a := a * 1000) (by omega), Int.tdiv_eq_ediv_of_nonneg (a := b * 1000 + (1000 - er) - 1) (by omega)]
 have q1 : 0 ≤ a * 1000 / (1000 + er) := Int.ediv_nonneg (by omega) (by omega)
 have q2 : a * 1000 / (1000 + er) ≤ a * 1000 / 1000 := by
  refine Int.le_ediv_of_mul_le (by omega) ?_
  have h1 := Int.ediv_mul_le (a * 1000) (b := 1000 + er) (by omega)
  have h2 : a * 1000 / (1000 + er) * 1000 ≤ a * 1000 / (1000 + er) * (1000 + er) := Int.mul_le_mul_of_nonneg_left (by omega) q1
  omega
 have q3 : (b * 1000 + (1000 - er) - 1) / 1000 ≤ (b * 1000 + (1000 - er) - 1) / (1000 - er) := by
  refine Int.le_ediv_of_mul_le (by omega) ?_
  have h0 : 0 ≤ (b * 1000 + (1000 - er) - 1) / 1000 := Int.ediv_nonneg (by omega) (by omega)
  have h1 := Int.ediv_mul_le (b * 1000 + (1000 - er) - 1) (b := 1000) (by omega)
  have h2 : (b * 1000 + (1000 - er) - 1) / 1000 * (1000 - er) ≤ (b * 1000 + (1000 - er) - 1) / 1000 * 1000 := Int.mul_le_mul_of_nonneg_left (by omega) h0
  omega
 have q4 : (b * 1000 + (1000 - er) - 1) / (1000 - er) ≤ (b * 1000 + (1000 - er) - 1) / 900 := by
  refine Int.le_ediv_of_mul_le (by omega) ?_
  have h0 : 0 ≤ (b * 1000 + (1000 - er) - 1) / (1000 - er) := Int.ediv_nonneg (by omega) (by omega)
  have h1 := Int.ediv_mul_le (b * 1000 + (1000 - er) - 1) (b := 1000 - er) (by omega)
  have h2 : (b * 1000 + (1000 - er) - 1) / (1000 - er) * 900 ≤ (b * 1000 + (1000 - er) - 1) / (1000 - er) * (1000 - er) := Int.mul_le_mul_of_nonneg_left (by omega) h0
  omega
 generalize a * 1000 / (1000 + er) = x at *
 generalize (b * 1000 + (1000 - er) - 1) / (1000 - er) = y at *
 simp only
 rw [i64 (n := x) (by omega), i64 (n := y) (by omega)]
 omega
theorem cmpV_bd {t : TMtTask} (h : AllLit t) (meter : Int) {p : TPair} (hp : PairV p) : (cmpV t meter p).Metered = metE p ∧ 0 ≤ (cmpV t meter p).Reckoned.Lo ∧ (cmpV t meter p).Reckoned.Lo ≤ (cmpV t meter p).Reckoned.Hi ∧ (cmpV t meter p).Reckoned.Hi ≤ 960000000000001 ∧
  (cmpV t meter p).Reckoned = ⟨(reckS t meter p.a.Day (daysP p).toNat).Encl.Lo / 3600, ((reckS t meter p.a.Day (daysP p).toNat).Encl.Hi + 3599) / 3600⟩ ∧
  ((cmpV t meter p).Kind = 0 ↔ ¬ (metE p).Hi < (cmpV t meter p).Reckoned.Lo ∧ ¬ (metE p).Lo > (cmpV t meter p).Reckoned.Hi) := by
 have hd := hp.days
 have hg := hp.gap
 obtain ⟨_, b0, b1, b2⟩ := reckS_val h meter p.a.Day (k := (daysP p).toNat) (by omega)
 have hh := hoursE_val b0 b1 b2
 unfold cmpV verE
 rw [hh]
 simp only
 refine ⟨trivial, by omega, by omega, by omega, trivial, ?_⟩
 split
 ·simp; omega
 ·split
  ·simp; omega
  ·simp; omega
end Go.Proofs.YtblebiafhhhflaaGreat
namespace Go.Proofs.YtblebiafhhhflaaGreat
open Go.RowKit
theorem relamp_same : ∀ l : List TMtItem, relamp l (l.map TMtItem.Lamp) = l
 | [] => rfl
 | x :: r => by simp only [List.map_cons, relamp]; rw [relamp_same r]
theorem lampsT_same (t : TMtTask) : lampsT t (t.Items.map TMtItem.Lamp) = t := by unfold lampsT; rw [relamp_same]
def conS (d : TEncl) (v : TMtVerdict) : TEncl := ⟨IntKind.i64.wrap (IntKind.i64.wrap (d.Lo + v.Reckoned.Lo) - v.Metered.Hi), IntKind.i64.wrap (IntKind.i64.wrap (d.Hi + v.Reckoned.Hi) - v.Metered.Lo)⟩
theorem wrap_con (a b c : Int) : IntKind.i64.wrap (IntKind.i64.wrap (a + IntKind.i64.wrap (1 * b)) + IntKind.i64.wrap (-1 * c)) = IntKind.i64.wrap (IntKind.i64.wrap (a + b) - c) := by
 simp only [IntKind.wrap_i64]; omega
theorem savS_con (s : TSum) (v : TMtVerdict) : (savS s v).Encl = conS s.Encl v := by
 unfold savS addS conS
 simp only
 rw [wrap_con, wrap_con]
theorem savF_con : ∀ (l : List TMtVerdict) (s : TSum), (l.foldl savS s).Encl = l.foldl conS s.Encl
 | [], _ => rfl
 | v :: r, s => by rw [List.foldl_cons, List.foldl_cons, savF_con r, savS_con]
def VerV (v : TMtVerdict) : Prop := 0 ≤ v.Metered.Lo ∧ v.Metered.Lo ≤ v.Metered.Hi ∧ v.Metered.Hi ≤ 1200000000000000 ∧ 0 ≤ v.Reckoned.Lo ∧ v.Reckoned.Lo ≤ v.Reckoned.Hi ∧ v.Reckoned.Hi ≤ 960000000000001
def sumV (f : TMtVerdict → Int) : List TMtVerdict → Int
 | [] => 0
 | v :: r => f v + sumV f r
theorem conF_val : ∀ {l : List TMtVerdict} {s : TEncl}, (∀ v ∈ l, VerV v) → -4000000000000000000 ≤ s.Lo - l.length * 1200000000000001 → s.Lo + l.length * 1200000000000001 ≤ 4000000000000000000 → -4000000000000000000 ≤ s.Hi - l.length * 1200000000000001 → s.Hi + l.length * 1200000000000001 ≤ 4000000000000000000 →
  l.foldl conS s = ⟨s.Lo + sumV (fun v => v.Reckoned.Lo - v.Metered.Hi) l, s.Hi + sumV (fun v => v.Reckoned.Hi - v.Metered.Lo) l⟩
 | [], s, _, _, _, _, _ => by unfold sumV; simp only [List.foldl_nil, Int.add_zero]
 | v :: r, s, h, h1, h2, h3, h4 => by
  obtain ⟨b0, b1, b2, b3, b4, b5⟩ := h v List.mem_cons_self
  rw [List.length_cons] at h1 h2 h3 h4
  have e : conS s v = ⟨s.Lo + (v.Reckoned.Lo - v.Metered.Hi), s.Hi + (v.Reckoned.Hi - v.Metered.Lo)⟩ := by
   unfold conS
   rw [i64 (n := s.Lo + v.Reckoned.Lo) (by omega), i64 (n := s.Hi + v.Reckoned.Hi) (by omega), i64 (by omega), i64 (by omega), Int.add_sub_assoc, Int.add_sub_assoc]
  rw [List.foldl_cons, e, conF_val (fun w hw => h w (List.mem_cons_of_mem _ hw)) (by simp only; omega) (by simp only; omega) (by simp only; omega) (by simp only; omega)]
  simp only [sumV]
  rw [Int.add_assoc, Int.add_assoc]
theorem sumV_mono {f g : TMtVerdict → Int} : ∀ {l : List TMtVerdict}, (∀ v ∈ l, f v ≤ g v) → sumV f l ≤ sumV g l
 | [], _ => Int.le_refl _
 | x :: r, h => by
  have h1 := h x List.mem_cons_self
  have h2 := sumV_mono fun y hy => h y (List.mem_cons_of_mem _ hy)
  unfold sumV; omega
theorem sumV_zero : ∀ l : List TMtVerdict, sumV (fun _ => 0) l = 0
 | [] => rfl
 | x :: r => by unfold sumV; rw [sumV_zero r]; rfl
theorem cmpL_mem {t : TMtTask} (ha : AllLit t) {meter : Int} (hm : MeterV (meterAt t meter)) {v : TMtVerdict} (hv : v ∈ cmpL t meter) : VerV v ∧ (v.Kind = 0 → v.Reckoned.Lo ≤ v.Metered.Hi ∧ v.Metered.Lo ≤ v.Reckoned.Hi) := by
 obtain ⟨i, hi, rfl⟩ := List.mem_map.1 hv
 rw [List.mem_range] at hi
 have hp := pairAt_v hm (i := i) (by omega)
 obtain ⟨e, b0, b1, b2, _, hk⟩ := cmpV_bd ha meter hp
 have hb := metE_bd hp
 refine ⟨?_, fun h0 => ?_⟩
 ·unfold VerV; rw [e]; exact ⟨hb.1, hb.2.1, hb.2.2, b0, b1, b2⟩
 ·obtain ⟨k1, k2⟩ := hk.1 h0
  rw [e]; omega
theorem contains {t : TMtTask} (ha : AllLit t) {meter : Int} (hm : MeterV (meterAt t meter)) : ((cmpL t meter).foldl conS ⟨0, 0⟩).Lo ≤ ((cmpL t meter).foldl conS ⟨0, 0⟩).Hi ∧
  ((cmpL t meter).all (fun v => v.Kind == 0) = true → ((cmpL t meter).foldl conS ⟨0, 0⟩).Lo ≤ 0 ∧ 0 ≤ ((cmpL t meter).foldl conS ⟨0, 0⟩).Hi) := by
 have hl : (cmpL t meter).length ≤ 30 := by rw [cmpL_len]; have := hm.number; omega
 have hv := fun v hv => cmpL_mem ha hm (v := v) hv
 generalize cmpL t meter = l at *
 rw [conF_val (fun v h => (hv v h).1) (by simp only; omega) (by simp only; omega) (by simp only; omega) (by simp only; omega)]
 simp only [Int.zero_add]
 refine ⟨sumV_mono fun v h => ?_, fun hall => ?_⟩
 ·obtain ⟨b0, b1, b2, b3, b4, b5⟩ := (hv v h).1; omega
 ·have hk : ∀ v ∈ l, v.Kind = 0 := fun v h => by simpa using List.all_eq_true.1 hall v h
  have m1 := sumV_mono (f := fun v => v.Reckoned.Lo - v.Metered.Hi) (g := fun _ => 0) (l := l) fun v h => by have := (hv v h).2 (hk v h); omega
  have m2 := sumV_mono (f := fun _ => 0) (g := fun v => v.Reckoned.Hi - v.Metered.Lo) (l := l) fun v h => by have := (hv v h).2 (hk v h); omega
  rw [sumV_zero] at m1 m2
  exact ⟨m1, m2⟩
theorem lamps_real {t : TMtTask} (hv : TaskV t) : (t.Items.map TMtItem.Lamp).any (isLampB t) = false := by
 rw [List.any_eq_false]
 intro n hn
 obtain ⟨x, hx, rfl⟩ := List.mem_map.1 hn
 have := (hv.item hx).lamp
 have L := hv.lens
 unfold isLampB
 rw [i64 (by omega), outF.2 ⟨by omega, by omega⟩]; simp
end Go.Proofs.YtblebiafhhhflaaGreat
namespace Go.Proofs.YtblebiafhhhflaaGreat
open Go.RowKit
def strongC (c : TLmCatalog) (x : TLmLamp) (p : Int) : TLmCatalog := { c with Lamps := c.Lamps.set 0 { x with Power := p } }
def strongT (t : TMtTask) (x : TLmLamp) (p : Int) : TMtTask := { t with Catalog := strongC t.Catalog x p }
theorem lampS_strong {n : Int} {i : Nat} {x : TLmLamp} {p : Int} (h : lampS n i x = 0) (h1 : x.Power ≤ p) (h2 : p ≤ 5000000) : lampS n i { x with Power := p } = 0 := by
 unfold lampS at h ⊢
 split at h
 ·simp at h
 rename_i g1
 split at h
 ·simp at h
 rename_i g2
 split at h
 ·simp at h
 rename_i g3
 split at h
 ·simp at h
 rename_i g4
 have g3 : numB x = true := by simpa using g3
 have g3' : numB { x with Power := p } = true := by
  unfold numB at g3 ⊢
  simp only [Bool.and_eq_true, inB_iff] at g3 ⊢
  exact ⟨g3.1, ⟨by omega, h2⟩, ⟨g3.2.2.1.1, by omega⟩, g3.2.2.2⟩
 rw [if_neg g1, if_neg g2, if_neg (by rw [g3']; decide), if_neg g4]
theorem take_name {l : List TLmLamp} {x y : TLmLamp} (h : l[0]? = some x) (hn : y.Name = x.Name) (i : Nat) : ((l.set 0 y).take i).map TLmLamp.Name = (l.take i).map TLmLamp.Name := by
 cases l with
 | nil => rfl
 | cons a r =>
  simp only [List.getElem?_cons_zero, Option.some.injEq] at h
  subst h
  cases i with
  | zero => rfl
  | succ i => simp [hn]
theorem catR_parts {c : TLmCatalog} (h : (catR c).2.2 = 0) : ¬ c.Tables.length > 10 ∧ ¬ c.Lamps.length > 20 ∧ (firstR TLmTable.Name tableS c.Tables).2 = 0 := by
 unfold catR at h
 split at h
 ·simp at h
 rename_i h1
 split at h
 ·simp at h
 rename_i h2
 split at h
 ·rename_i h3; exact absurd h h3
 ·rename_i h3; exact ⟨h1, h2, Decidable.byContradiction h3⟩
theorem cat_strong {c : TLmCatalog} (h : (catR c).2.2 = 0) {x : TLmLamp} (hx : c.Lamps[0]? = some x) {p : Int} (h1 : x.Power ≤ p) (h2 : p ≤ 5000000) : (catR (strongC c x p)).2.2 = 0 := by
 obtain ⟨k1, k2, k3⟩ := catR_parts h
 have hl := cat_lamps h
 have key : (firstR TLmLamp.Name (lampS (c.Tables.length - 1)) (c.Lamps.set 0 { x with Power := p })).2 = 0 := by
  unfold firstR
  rw [firstE_all]
  intro j _ hj
  rw [List.length_set, Nat.zero_add] at hj
  cases j with
  | zero =>
   have hz := errAt_zero hl hx
   rw [errAt_some (List.getElem?_set_self hj), if_neg (by simp [hz.1]), if_neg (by simp), lampS_strong hz.2.2 h1 h2]
  | succ j =>
   obtain ⟨y, hy⟩ : ∃ y, c.Lamps[j + 1]? = some y := ⟨c.Lamps[j + 1], List.getElem?_eq_getElem hj⟩
   have hz := errAt_zero hl hy
   have e : ((c.Lamps.set 0 { x with Power := p }).take (j + 1)).any (fun z => twinB z.Name y.Name) = (c.Lamps.take (j + 1)).any (fun z => twinB z.Name y.Name) := by
    have a1 : ∀ l : List TLmLamp, l.any (fun z => twinB z.Name y.Name) = (l.map TLmLamp.Name).any (fun s => twinB s y.Name) := fun l => by rw [List.any_map]; rfl
    rw [a1, a1, take_name (y := { x with Power := p }) hx rfl]
   rw [errAt_some (x := y) (by rw [List.getElem?_set_ne (by omega)]; exact hy), e, if_neg (by simp [hz.1]), if_neg (by simp [hz.2.1])]
   exact hz.2.2
 unfold catR strongC
 simp only
 rw [if_neg k1, List.length_set, if_neg k2, if_neg (by simp [k3]), if_neg (by simp [key])]
theorem task_strong {t : TMtTask} (hv : TaskV t) {x : TLmLamp} (hx : t.Catalog.Lamps[0]? = some x) {p : Int} (h1 : x.Power ≤ p) (h2 : p ≤ 5000000) : TaskV (strongT t x p) := by
 have e : itemE (strongT t x p) = itemE t := by
  funext y
  unfold itemE strongT strongC
  simp only [List.length_set]
 refine ⟨hv.city, cat_strong hv.cat hx h1 h2, hv.np, hv.ni, hv.nm, hv.pr, hv.me, ?_⟩
 rw [e]; exact hv.it
theorem relamp_zero : ∀ (l : List TMtItem) (n : Nat), l.length ≤ n → ∀ x ∈ relamp l (List.replicate n 0), x.Lamp = 0
 | [], n, _, x, hx => by cases n <;> simp [relamp, List.replicate] at hx
 | y :: r, 0, h, x, hx => by simp at h
 | y :: r, n + 1, h, x, hx => by
  rw [List.replicate_succ] at hx
  simp only [relamp, List.mem_cons] at hx
  rcases hx with rfl | hx
  ·rfl
  ·exact relamp_zero r n (by simpa using h) x hx
theorem lampsT_lit {t : TMtTask} (hv : TaskV t) {n : Nat} (hn : t.Items.length ≤ n) (h0 : 0 < t.Catalog.Lamps.length) : AllLit (lampsT t (List.replicate n 0)) := by
 refine ⟨fun x hx => ?_, by unfold lampsT; rw [relamp_len]; exact hv.ni⟩
 have hz := relamp_zero _ n hn x hx
 obtain ⟨y, hy, k, rfl⟩ := relamp_mem hx
 have hc := (hv.item hy).count
 exact ⟨⟨hv.cat, by rw [hz]; exact ⟨Int.le_refl _, by show (0 : Int) < (t.Catalog.Lamps.length : Nat); omega⟩⟩, by simp only; omega, by simp only; omega⟩
theorem sumV_map {f : TMtVerdict → Int} {g g' : Nat → TMtVerdict} : ∀ {l : List Nat}, (∀ i ∈ l, f (g i) ≤ f (g' i)) → sumV f (l.map g) ≤ sumV f (l.map g')
 | [], _ => Int.le_refl _
 | i :: r, h => by
  have h1 := h i List.mem_cons_self
  have h2 := sumV_map fun j hj => h j (List.mem_cons_of_mem _ hj)
  simp only [List.map_cons, sumV]; omega
theorem cmpV_mono {t t' : TMtTask} (ha : AllLit t) (ha' : AllLit t') (hi : t'.Items = t.Items) {meter : Int} (hone : ∀ x ∈ t.Items, ∀ day, leE (oneS t x day).Encl (oneS t' x day).Encl) {p : TPair} (hp : PairV p) : leE (cmpV t meter p).Reckoned (cmpV t' meter p).Reckoned ∧ (cmpV t' meter p).Metered = (cmpV t meter p).Metered := by
 obtain ⟨e1, _, _, _, r1, _⟩ := cmpV_bd ha meter hp
 obtain ⟨e2, _, _, _, r2, _⟩ := cmpV_bd ha' meter hp
 refine ⟨?_, by rw [e1, e2]⟩
 have hk : (daysP p).toNat ≤ 200 := by have := hp.gap; rw [hp.days]; omega
 generalize (daysP p).toNat = k at *
 have hl : ∀ x ∈ t.Items, ∀ j : Nat, j ≤ 200 → leE (lampsS t x p.a.Day j).Encl (lampsS t' x p.a.Day j).Encl := by
  intro x hx j
  induction j with
  | zero => intro _; exact ⟨Int.le_refl _, Int.le_refl _⟩
  | succ j ih =>
   intro hj
   have h1 := ih (by omega)
   have h2 := hone x hx (IntKind.i64.wrap (p.a.Day + (j : Nat)))
   rw [(lampsS_step (ha.lit x hx).1 p.a.Day j (by omega)).2, (lampsS_step (ha'.lit x (hi ▸ hx)).1 p.a.Day j (by omega)).2]
   unfold leE at *
   simp only; omega
 have hr : ∀ x ∈ t.Items, leE (recX t meter p.a.Day k x) (recX t' meter p.a.Day k x) := by
  intro x hx
  have h1 := hl x hx k hk
  have hc := (ha.lit x hx).2
  unfold recX
  split
  ·exact ⟨Int.mul_le_mul_of_nonneg_left h1.1 hc.1, Int.mul_le_mul_of_nonneg_left h1.2 hc.1⟩
  ·exact ⟨Int.le_refl _, Int.le_refl _⟩
 obtain ⟨v1, _⟩ := reckS_val ha meter p.a.Day hk
 obtain ⟨v2, _⟩ := reckS_val ha' meter p.a.Day hk
 rw [hi] at v2
 have m1 := sumL_mono (f := fun x => (recX t meter p.a.Day k x).Lo) (g := fun x => (recX t' meter p.a.Day k x).Lo) fun x hx => (hr x hx).1
 have m2 := sumL_mono (f := fun x => (recX t meter p.a.Day k x).Hi) (g := fun x => (recX t' meter p.a.Day k x).Hi) fun x hx => (hr x hx).2
 rw [r1, r2, v1, v2]
 unfold leE
 simp only; omega
theorem stronger {t : TMtTask} {meter : Int} {n : Nat} (hn : t.Items.length = n) (hm2 : t.Meters.length ≤ 2 ^ 62) (h : (savedR t meter (List.replicate n 0)).2 = 0) {x : TLmLamp} (hx : t.Catalog.Lamps[0]? = some x) {p : Int} (h1 : x.Power ≤ p) (h2 : p ≤ 5000000) :
  (savedR (strongT t x p) meter (List.replicate n 0)).2 = 0 ∧ leE (savedR t meter (List.replicate n 0)).1 (savedR (strongT t x p) meter (List.replicate n 0)).1 := by
 unfold savedR at h ⊢
 split at h
 ·rename_i hh; exact absurd h hh
 rename_i a1
 split at h
 ·simp at h
 rename_i a2
 split at h
 ·simp at h
 rename_i a3
 split at h
 ·simp at h
 rename_i a4
 have hacc : accE t meter 0 t.Meters.length = 0 := Decidable.byContradiction a1
 obtain ⟨hv, g0, g1⟩ := accE_zero hm2 hacc
 have hv' := task_strong hv hx h1 h2
 have hmv := hv.meter (meter_get g0 g1).2.1
 have hL : 0 < t.Catalog.Lamps.length := by have := (List.getElem?_eq_some_iff.1 hx).1; exact this
 have e1 : accE (strongT t x p) meter 0 (strongT t x p).Meters.length = 0 := accE_good hm2 hv' g0 g1
 have e3 : isLampB (strongT t x p) = isLampB t := by
  funext k; unfold isLampB strongT strongC; simp only [List.length_set]
 have e4 : meterAt (strongT t x p) meter = meterAt t meter := rfl
 have e5 : (strongT t x p).Items = t.Items := rfl
 rw [if_neg a1, if_neg a2, if_neg a3, if_neg a4, if_neg (by simp [e1]), e5, if_neg a2, e3, if_neg a3, e4, if_neg a4]
 refine ⟨rfl, ?_⟩
 have hA := lampsT_lit hv (n := n) (by omega) hL
 have hA' := lampsT_lit hv' (n := n) (by rw [e5]; omega) (by show 0 < (t.Catalog.Lamps.set 0 _).length; rw [List.length_set]; exact hL)
 have hm1 : MeterV (meterAt (lampsT t (List.replicate n 0)) meter) := hmv
 have hm2 : MeterV (meterAt (lampsT (strongT t x p) (List.replicate n 0)) meter) := hmv
 unfold savedE
 rw [savF_con, savF_con]
 have hl : (cmpL (lampsT t (List.replicate n 0)) meter).length ≤ 30 := by rw [cmpL_len]; have := hm1.number; omega
 have hl' : (cmpL (lampsT (strongT t x p) (List.replicate n 0)) meter).length ≤ 30 := by rw [cmpL_len]; have := hm2.number; omega
 unfold sum0
 rw [conF_val (fun v h => (cmpL_mem hA hm1 h).1) (by simp only; omega) (by simp only; omega) (by simp only; omega) (by simp only; omega),
  conF_val (fun v h => (cmpL_mem hA' hm2 h).1) (by simp only; omega) (by simp only; omega) (by simp only; omega) (by simp only; omega)]
 have hone : ∀ y ∈ (lampsT t (List.replicate n 0)).Items, ∀ day, leE (oneS (lampsT t (List.replicate n 0)) y day).Encl (oneS (lampsT (strongT t x p) (List.replicate n 0)) y day).Encl := by
  intro y hy day
  have hy0 := relamp_zero _ n (by omega) y hy
  have l1 := (hA.lit y hy).1
  have l2 := (hA'.lit y hy).1
  rw [oneS_val l1.cat l1.lamp, oneS_val l2.cat l2.lamp]
  have hla := (lamped_ok l1.cat l1.lamp.1 l1.lamp.2).2.1
  have hlb := (lamped_ok l2.cat l2.lamp.1 l2.lamp.2).2.1
  have ea : lampAt (lampsT t (List.replicate n 0)).Catalog y.Lamp = x := by
   rw [hy0]; show (t.Catalog.Lamps[0]?).getD noLamp = x; rw [hx]; rfl
  have eb : lampAt (lampsT (strongT t x p) (List.replicate n 0)).Catalog y.Lamp = { x with Power := p } := by
   rw [hy0]; show ((t.Catalog.Lamps.set 0 { x with Power := p })[0]?).getD noLamp = _; rw [List.getElem?_set_self hL]; rfl
  rw [ea] at hla ⊢
  rw [eb] at hlb ⊢
  split
  ·exact ⟨Int.le_refl _, Int.le_refl _⟩
  ·exact oneE_mono hla hlb rfl h1 rfl rfl (fun _ => Int.le_refl _) (dayP_long t day _).1
 have hc := fun i (hi : i ∈ List.range ((meterAt t meter).Readings.length - 1)) => cmpV_mono hA hA' rfl (meter := meter) hone (pairAt_v hmv (i := i) (by rw [List.mem_range] at hi; omega))
 have c1 := sumV_map (f := fun v => v.Reckoned.Lo - v.Metered.Hi) (g := fun i => cmpV (lampsT t (List.replicate n 0)) meter (pairAt (meterAt t meter) i)) (g' := fun i => cmpV (lampsT (strongT t x p) (List.replicate n 0)) meter (pairAt (meterAt t meter) i)) (l := List.range ((meterAt t meter).Readings.length - 1)) fun i hi => by
  obtain ⟨k1, k2⟩ := hc i hi
  rw [k2]; have := k1.1; omega
 have c2 := sumV_map (f := fun v => v.Reckoned.Hi - v.Metered.Lo) (g := fun i => cmpV (lampsT t (List.replicate n 0)) meter (pairAt (meterAt t meter) i)) (g' := fun i => cmpV (lampsT (strongT t x p) (List.replicate n 0)) meter (pairAt (meterAt t meter) i)) (l := List.range ((meterAt t meter).Readings.length - 1)) fun i hi => by
  obtain ⟨k1, k2⟩ := hc i hi
  rw [k2]; have := k1.2; omega
 exact ⟨by simp only; unfold cmpL; have := c1; exact Int.add_le_add_left c1 _, by simp only; unfold cmpL; exact Int.add_le_add_left c2 _⟩
end Go.Proofs.YtblebiafhhhflaaGreat

/- Plain laws of chapter 6: the greatest of a convex function; what is behind a node. Contracts in the form that the laws outright use: answers for nodes that there are. -/
import Derived.Test.YtbdbnpnichkcjaaX6
namespace Go.Proofs.Ytbdbnpnichkcjaa
open Go.RowKit
def quadF (a b c : Int) : Int := a * a + b * b + c * c - a * b - b * c - c * a
theorem half_quad (a b c : Int) : halfD a b c = quadF a b c := by
  have h : (a - b) * (a - b) + (b - c) * (b - c) + (c - a) * (c - a) = 2 * quadF a b c := by unfold quadF; grind
  unfold halfD; omega
theorem half_turn (a b c : Int) : halfD a b c = halfD b c a := by rw [half_quad, half_quad]; unfold quadF; grind
/-- A convex function is at most the greater one of its values at the ends. -/
theorem half_ends {a b c l h : Int} (h1 : l ≤ a) (h2 : a ≤ h) : halfD a b c ≤ halfD l b c ∨ halfD a b c ≤ halfD h b c := by
  simp only [half_quad]
  by_cases hs : 0 ≤ h + a - b - c
  · right
    have := Int.mul_nonneg (show 0 ≤ h - a by omega) hs
    have e : (h - a) * (h + a - b - c) = quadF h b c - quadF a b c := by unfold quadF; grind
    omega
  · left
    have := Int.mul_nonneg (show 0 ≤ a - l by omega) (show 0 ≤ b + c - l - a by omega)
    have e : (a - l) * (b + c - l - a) = quadF l b c - quadF a b c := by unfold quadF; grind
    omega
theorem most_corner (x y z : TEncl) : halfD x.Lo y.Lo z.Lo ≤ mostS x y z ∧ halfD x.Lo y.Lo z.Hi ≤ mostS x y z ∧ halfD x.Lo y.Hi z.Lo ≤ mostS x y z ∧ halfD x.Lo y.Hi z.Hi ≤ mostS x y z ∧
    halfD x.Hi y.Lo z.Lo ≤ mostS x y z ∧ halfD x.Hi y.Lo z.Hi ≤ mostS x y z ∧ halfD x.Hi y.Hi z.Lo ≤ mostS x y z ∧ halfD x.Hi y.Hi z.Hi ≤ mostS x y z ∧ 0 ≤ mostS x y z := by
  unfold mostS most2 most3; omega
theorem most_le {x y z : TEncl} {M : Int} (h0 : 0 ≤ M) (h : ∀ a b c, (a = x.Lo ∨ a = x.Hi) → (b = y.Lo ∨ b = y.Hi) → (c = z.Lo ∨ c = z.Hi) → halfD a b c ≤ M) : mostS x y z ≤ M := by
  have k1 := h x.Lo y.Lo z.Lo (.inl rfl) (.inl rfl) (.inl rfl)
  have k2 := h x.Lo y.Lo z.Hi (.inl rfl) (.inl rfl) (.inr rfl)
  have k3 := h x.Lo y.Hi z.Lo (.inl rfl) (.inr rfl) (.inl rfl)
  have k4 := h x.Lo y.Hi z.Hi (.inl rfl) (.inr rfl) (.inr rfl)
  have k5 := h x.Hi y.Lo z.Lo (.inr rfl) (.inl rfl) (.inl rfl)
  have k6 := h x.Hi y.Lo z.Hi (.inr rfl) (.inl rfl) (.inr rfl)
  have k7 := h x.Hi y.Hi z.Lo (.inr rfl) (.inr rfl) (.inl rfl)
  have k8 := h x.Hi y.Hi z.Hi (.inr rfl) (.inr rfl) (.inr rfl)
  unfold mostS most2 most3; omega
/-- The greatest at the corners of a box is the greatest in it. -/
theorem half_most {x y z : TEncl} {a b c : Int} (ha : x.Lo ≤ a ∧ a ≤ x.Hi) (hb : y.Lo ≤ b ∧ b ≤ y.Hi) (hc : z.Lo ≤ c ∧ c ≤ z.Hi) : halfD a b c ≤ mostS x y z := by
  obtain ⟨m1, m2, m3, m4, m5, m6, m7, m8, _⟩ := most_corner x y z
  have third : ∀ a b, (a = x.Lo ∨ a = x.Hi) → (b = y.Lo ∨ b = y.Hi) → halfD a b c ≤ mostS x y z := by
    intro a b h1 h2
    have h3 := half_ends (b := a) (c := b) hc.1 hc.2
    rw [half_turn c a b, half_turn z.Lo a b, half_turn z.Hi a b] at h3
    rcases h1 with rfl | rfl <;> rcases h2 with rfl | rfl <;> rcases h3 with h3 | h3 <;> omega
  have second : ∀ a, (a = x.Lo ∨ a = x.Hi) → halfD a b c ≤ mostS x y z := by
    intro a h1
    have h3 := half_ends (b := c) (c := a) hb.1 hb.2
    rw [← half_turn a b c, ← half_turn a y.Lo c, ← half_turn a y.Hi c] at h3
    have t1 := third a y.Lo h1 (.inl rfl)
    have t2 := third a y.Hi h1 (.inr rfl)
    rcases h3 with h3 | h3 <;> omega
  have h3 := half_ends (b := b) (c := c) ha.1 ha.2
  have t1 := second x.Lo (.inl rfl)
  have t2 := second x.Hi (.inr rfl)
  rcases h3 with h3 | h3 <;> omega
theorem root_mono {m n : Int} (hn : n ≤ 4000000000000000000) (h : m ≤ n) : rootS m ≤ rootS n := by
  have r1 := rootS_spec (n := m) (by omega)
  have r2 := rootS_spec hn
  rcases r1.low with h' | h'
  · have := r2.nn; omega
  · by_cases hh : rootS m ≤ rootS n
    · exact hh
    · exfalso
      have h0 := r2.nn
      have h1 := r2.up
      have : rootS n * rootS n ≤ (rootS m - 1) * (rootS m - 1) := Int.mul_le_mul (by omega) (by omega) (by omega) (by omega)
      omega
/-- One enclosure in another one. -/
def inE (x y : TEncl) : Prop := y.Lo ≤ x.Lo ∧ x.Hi ≤ y.Hi
theorem neut_mono {x y z x' y' z' : TEncl} (hx : EOK x) (hy : EOK y) (hz : EOK z) (hx' : EOK x') (hy' : EOK y') (hz' : EOK z') (h1 : inE x x') (h2 : inE y y') (h3 : inE z z') : neutS x y z ≤ neutS x' y' z' := by
  have hb := mostS_bound hx' hy' hz'
  refine root_mono (by omega) (most_le hb.1 fun a b c ha hb hc => half_most ?_ ?_ ?_)
  · unfold inE EOK at *; omega
  · unfold inE EOK at *; omega
  · unfold inE EOK at *; omega
/-- The voltage lost on a cable: its parts along and across, against the currents' lengths. -/
theorem loses {a d h r s R A N : Int} (ha : 0 ≤ a ∧ a ≤ A) (hr : 0 ≤ r ∧ r ≤ R) (hs : 0 ≤ s ∧ s ≤ R) (hN : 0 ≤ N) (hq : halfD a d h ≤ N * N) :
    (2 * a * r + (2 * a - d - h) * s) * (2 * a * r + (2 * a - d - h) * s) + 3 * ((h - d) * s) * ((h - d) * s) ≤ 4 * (R * (A + N)) * (R * (A + N)) := by
  rw [half_quad] at hq
  have hu : 2 * a - d - h ≤ 2 * N := by
    by_cases hu : 2 * a - d - h ≤ 2 * N
    · exact hu
    · exfalso
      have h1 : (2 * N + 1) * (2 * N + 1) ≤ (2 * a - d - h) * (2 * a - d - h) := Int.mul_le_mul (by omega) (by omega) (by omega) (by omega)
      have h2 : (2 * a - d - h) * (2 * a - d - h) + 3 * ((h - d) * (h - d)) = 4 * quadF a d h := by unfold quadF; grind
      have h3 : 0 ≤ (h - d) * (h - d) := by
        rcases Int.le_total 0 (h - d) with h' | h'
        · exact Int.mul_nonneg h' h'
        · exact Int.mul_nonneg_of_nonpos_of_nonpos h' h'
      have h4 : (2 * N + 1) * (2 * N + 1) = 4 * (N * N) + 4 * N + 1 := by grind
      omega
  have e : (2 * a * r + (2 * a - d - h) * s) * (2 * a * r + (2 * a - d - h) * s) + 3 * ((h - d) * s) * ((h - d) * s) = 4 * (a * r * (a * r)) + 4 * (a * r * s * (2 * a - d - h)) + 4 * (s * s * quadF a d h) := by unfold quadF; grind
  have har := Int.mul_nonneg ha.1 hr.1
  have hars := Int.mul_nonneg har hs.1
  have hss := Int.mul_nonneg hs.1 hs.1
  have b1 := Int.mul_le_mul_of_nonneg_left hu hars
  have b2 := Int.mul_le_mul_of_nonneg_left hq hss
  have e2 : 4 * (a * r * (a * r)) + 4 * (a * r * s * (2 * N)) + 4 * (s * s * (N * N)) = 4 * ((a * r + s * N) * (a * r + s * N)) := by grind
  have c1 : a * r ≤ A * R := Int.mul_le_mul (by omega) (by omega) (by omega) (by omega)
  have c2 : s * N ≤ R * N := Int.mul_le_mul_of_nonneg_right hs.2 hN
  have c3 := Int.mul_nonneg hs.1 hN
  have e3 : R * (A + N) = A * R + R * N := by grind
  have c4 : (a * r + s * N) * (a * r + s * N) ≤ (R * (A + N)) * (R * (A + N)) := by
    rw [e3]; exact Int.mul_le_mul (by omega) (by omega) (by omega) (by omega)
  have e4 : 4 * (R * (A + N)) * (R * (A + N)) = 4 * ((R * (A + N)) * (R * (A + N))) := by grind
  omega
/-- What is behind a node: drops and faults. -/
theorem drop_up {f : TFeFeeder} (hf : OK f) {i node : Nat} (h : i < f.Nodes.length) (h0 : i ≠ 0) (hp : par f i = node) (p : Int) : dropS f node p ≤ dropS f i p := by
  unfold dropS
  rw [upL_succ hf h h0, hp]
  have h1 := whole_bound hf p h h0
  have h2 := mill_bound hf p h h0
  have e1 : sumL (wholeG f p) (i :: upL f node) = wholeG f p i + sumL (wholeG f p) (upL f node) := rfl
  have e2 : sumL (millG f p) (i :: upL f node) = millG f p i + sumL (millG f p) (upL f node) := rfl
  rw [e1, e2]; omega
theorem div_anti {a b c : Int} (ha : 0 ≤ a) (hb : 1 ≤ b) (h : b ≤ c) : a / c ≤ a / b := by
  have h1 : a / c * c ≤ a := Int.ediv_mul_le a (by omega)
  have h0 : 0 ≤ a / c := Int.ediv_nonneg ha (by omega)
  refine (Int.le_ediv_iff_mul_le (by omega)).2 ?_
  have := Int.mul_le_mul_of_nonneg_left h h0
  omega
theorem ceil_anti {a b c : Int} (ha : 0 ≤ a) (hb : 1 ≤ b) (h : b ≤ c) : (a + c - 1) / c ≤ (a + b - 1) / b := by
  have h1 : (a + b - 1) / b * b + b > a + b - 1 := by have := Int.lt_ediv_add_one_mul_self (a + b - 1) (show 0 < b by omega); grind
  have h0 : 0 ≤ (a + b - 1) / b := Int.ediv_nonneg (by omega) (by omega)
  have h2 := Int.mul_le_mul_of_nonneg_left h h0
  have : (a + c - 1) / c < (a + b - 1) / b + 1 := (Int.ediv_lt_iff_lt_mul (by omega)).2 (by grind)
  omega
theorem rE_bound {f : TFeFeeder} (hf : OK f) {node : Nat} (h : node < f.Nodes.length) (earth : Bool) : 1 ≤ (rE f (upL f node) earth).Lo ∧ (rE f (upL f node) earth).Lo ≤ (rE f (upL f node) earth).Hi := by
  have hs := hf.source
  have h1 : ∀ l : List Nat, (∀ i ∈ l, i ≠ 0 ∧ i < f.Nodes.length) → 0 ≤ sumL (loG f earth) l ∧ sumL (loG f earth) l ≤ sumL (hiG f earth) l := by
    intro l
    induction l with
    | nil => intro _; exact ⟨by simp [sumL], by simp [sumL]⟩
    | cons x l ih =>
      intro hl
      have hx := hl x (by simp)
      have hi := ih fun i hi => hl i (List.mem_cons_of_mem _ hi)
      have hb := lo_bound hf earth hx.2 hx.1
      have hle : loG f earth x ≤ hiG f earth x := by
        have hn := (node_ok hf hx.2 hx.1).len
        have hc := cb_ok hf hx.2 hx.1
        have hk := back_ok hc earth
        have a1 := Int.mul_le_mul_of_nonneg_left hc.core.2.1 (show 0 ≤ (nd f x).Length by omega)
        have a2 := Int.mul_le_mul_of_nonneg_left hk.2.1 (show 0 ≤ (nd f x).Length by omega)
        unfold loG hiG; omega
      have e1 : sumL (loG f earth) (x :: l) = loG f earth x + sumL (loG f earth) l := rfl
      have e2 : sumL (hiG f earth) (x :: l) = hiG f earth x + sumL (hiG f earth) l := rfl
      rw [e1, e2]; omega
  have := h1 (upL f node) fun i hi => let m := upL_mem hf h hi; ⟨m.1, m.2.1⟩
  simp only [rE]; omega
theorem fault_up {f : TFeFeeder} (hf : OK f) {i node : Nat} (h : i < f.Nodes.length) (h0 : i ≠ 0) (hp : par f i = node) (earth : Bool) : (faultS f i earth).Lo ≤ (faultS f node earth).Lo ∧ (faultS f i earth).Hi ≤ (faultS f node earth).Hi := by
  have hpl := (par_lt hf h h0).1
  have hb := rE_bound hf (show node < f.Nodes.length by omega) earth
  have h1 := lo_bound hf earth h h0
  have h2 := hi_bound hf earth h h0
  have hv := hf.volts
  have e1 : (rE f (upL f i) earth).Lo = (rE f (upL f node) earth).Lo + loG f earth i := by
    rw [upL_succ hf h h0, hp]
    have : sumL (loG f earth) (i :: upL f node) = loG f earth i + sumL (loG f earth) (upL f node) := rfl
    simp only [rE, this]; omega
  have e2 : (rE f (upL f i) earth).Hi = (rE f (upL f node) earth).Hi + hiG f earth i := by
    rw [upL_succ hf h h0, hp]
    have : sumL (hiG f earth) (i :: upL f node) = hiG f earth i + sumL (hiG f earth) (upL f node) := rfl
    simp only [rE, this]; omega
  simp only [faultS, e1, e2]
  exact ⟨div_anti (by omega) (by omega) (by omega), ceil_anti (by omega) (by omega) (by omega)⟩
theorem fault_wf {f : TFeFeeder} (hf : OK f) {node : Nat} (h : node < f.Nodes.length) (earth : Bool) : (faultS f node earth).Lo ≤ (faultS f node earth).Hi := by
  have hb := rE_bound hf h earth
  have hv := hf.volts
  simp only [faultS]
  have h1 := div_anti (a := 1000000 * f.Volts.Lo) (by omega) hb.1 hb.2
  have h2 : 1000000 * f.Volts.Lo / (rE f (upL f node) earth).Lo ≤ (1000000 * f.Volts.Hi + (rE f (upL f node) earth).Lo - 1) / (rE f (upL f node) earth).Lo := Int.ediv_le_ediv (by omega) (by omega)
  omega
end Go.Proofs.Ytbdbnpnichkcjaa
namespace Go.Proofs.Ytbdbnpnichkcjaa
open Go.RowKit
theorem inner_asked {f : TFeFeeder} {node : Int} (h : innerS f node = 0) : askedS f node = 0 := by
  unfold innerS at h
  split at h
  · cases h
  · exact h
theorem asked_check {f : TFeFeeder} {node : Int} (h : askedS f node = 0) : (checkF f).2.2 = 0 := by
  unfold askedS at h
  split at h
  · assumption
  · rename_i h1; exact absurd h h1
theorem asked_of {f : TFeFeeder} (h : (checkF f).2.2 = 0) {i : Nat} (hi : i < f.Nodes.length) : askedS f i = 0 := by
  unfold askedS
  rw [if_pos h, if_pos (inB_iff.2 ⟨by omega, by omega⟩)]
theorem inner_of {f : TFeFeeder} (h : (checkF f).2.2 = 0) {i : Nat} (hi : i < f.Nodes.length) (h0 : i ≠ 0) : innerS f i = 0 := by
  unfold innerS
  rw [if_neg (by rintro ⟨_, e⟩; omega), asked_of h hi]
theorem c24b (f : TFeFeeder) (hn : NOK f) {node : Int} (h : innerS f node ≠ 0) : Sp 24 [f.av, .int .i64 node] [] (.tup [.agg (six ⟨0, 0⟩ ⟨0, 0⟩ ⟨0, 0⟩), .int .i64 (innerS f node)]) [] := by
  have := c24 f hn node
  rw [curR, if_pos h] at this; exact this
theorem c24a (f : TFeFeeder) (hn : NOK f) (hc : (checkF f).2.2 = 0) {i : Nat} (hi : i < f.Nodes.length) (h0 : i ≠ 0) : Sp 24 [f.av, .int .i64 (i : Nat)] [] (.tup [.agg (cur3 f i), .int .i64 0]) [] := by
  have := c24 f hn i
  rw [curR, if_neg (by rw [inner_of hc hi h0]; simp)] at this; exact this
theorem c18a (f : TFeFeeder) (hn : NOK f) (hc : (checkF f).2.2 = 0) {i : Nat} (hi : i < f.Nodes.length) {p : Int} (hp : p = 0 ∨ p = 1 ∨ p = 2) : Sp 18 [f.av, .int .i64 (i : Nat), .int .i64 p] [] (.tup [.int .i64 (dropS f i p), .int .i64 0]) [] := by
  have := c18 f hn i p
  rw [dropR, if_neg (by rw [asked_of hc hi]; simp), if_neg (by rw [inB_iff.2 (by omega)]; simp)] at this; exact this
theorem c20a (f : TFeFeeder) (hn : NOK f) (hc : (checkF f).2.2 = 0) {i : Nat} (hi : i < f.Nodes.length) (h0 : i ≠ 0) (e : Bool) : Sp 20 [f.av, .int .i64 (i : Nat), .bool e] [] (.tup [(faultS f i e).av, .int .i64 0]) [] := by
  have := c20 f hn i e
  rw [faultR, if_neg (by rw [inner_of hc hi h0]; simp)] at this; exact this
theorem c26a (f : TFeFeeder) (hn : NOK f) (hc : (checkF f).2.2 = 0) {i : Nat} (hi : i < f.Nodes.length) (h0 : i ≠ 0) : Sp 26 [f.av, .int .i64 (i : Nat)] [] (.tup [.int .i64 (neutN f i), .int .i64 0]) [] := by
  have := c26 f hn i
  rw [neutR, if_neg (by rw [inner_of hc hi h0]; simp)] at this; exact this
/-- A phase, by a number of a byte. -/
theorem phase_u8 (x : Int) : (IntKind.i64.wrap (IntKind.u8.wrap x)).tmod 3 = 0 ∨ (IntKind.i64.wrap (IntKind.u8.wrap x)).tmod 3 = 1 ∨ (IntKind.i64.wrap (IntKind.u8.wrap x)).tmod 3 = 2 := by
  rw [IntKind.wrap_u8, i64 (by omega), Int.tmod_eq_emod_of_nonneg (by omega)]; omega
end Go.Proofs.Ytbdbnpnichkcjaa

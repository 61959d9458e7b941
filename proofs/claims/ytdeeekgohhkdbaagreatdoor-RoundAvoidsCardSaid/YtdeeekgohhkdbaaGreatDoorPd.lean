/- Plain: what is so of a programme that is valid; the benefit of an inspection, without bounds. -/
import Derived.Test.YtdeeekgohhkdbaaGreatDoorPa
import Derived.Test.YtdeeekgohhkdbaaGreatDoorRq
namespace Go.Proofs.YtdeeekgohhkdbaaGreatDoor
structure ProgV (p : TRoProgramme) : Prop where
 al : p.Assets.length ≤ 6
 bl : p.Budgets.length ≤ 3
 first : 0 ≤ p.First ∧ p.First ≤ 40000
 days : 1 ≤ p.Days ∧ p.Days ≤ 4000
 bud : ∀ n ∈ p.Budgets, 0 ≤ n ∧ n ≤ 10000000
 ass : ∀ x ∈ p.Assets, (0 ≤ x.Cost ∧ x.Cost ≤ 1000000) ∧ (0 ≤ x.Rate ∧ x.Rate ≤ 1000) ∧ (0 ≤ x.Harm ∧ x.Harm ≤ 10000000) ∧ (0 ≤ x.Last ∧ x.Last ≤ p.First)
theorem prog_ok {p : TRoProgramme} (h : (progE p).2 = 0) : ProgV p := by
 unfold progE at h
 by_cases h0 : p.Assets.length > 6
 ·rw [if_pos h0] at h; exact absurd h (by simp)
 rw [if_neg h0] at h
 by_cases h1 : p.Budgets.length > 3
 ·rw [if_pos h1] at h; exact absurd h (by simp)
 rw [if_neg h1] at h
 by_cases h2 : outB p.First 0 40000 = true
 ·rw [if_pos h2] at h; exact absurd h (by simp)
 rw [if_neg h2] at h
 by_cases h3 : outB p.Days 1 4000 = true
 ·rw [if_pos h3] at h; exact absurd h (by simp)
 rw [if_neg h3] at h
 by_cases h4 : p.Budgets.any richB = true
 ·rw [if_pos h4] at h; exact absurd h (by simp)
 rw [if_neg h4] at h
 have h4 : p.Budgets.any richB = false := by simpa using h4
 refine ⟨by omega, by omega, outC.1 (by simpa using h2), outC.1 (by simpa using h3), fun n hn => ?_, fun x hx => ?_⟩
 ·have h5 : richB n = false := by simpa using List.any_eq_false.1 h4 n hn
  exact outC.1 h5
 ·obtain ⟨_, hi⟩ := errAt_zero h x hx
  have hi : assetE p x = 0 := hi
  unfold assetE at hi
  by_cases g0 : outB x.Cost 0 1000000 = true
  ·rw [if_pos g0] at hi; exact absurd hi (by simp)
  rw [if_neg g0] at hi
  by_cases g1 : outB x.Rate 0 1000 = true
  ·rw [if_pos g1] at hi; exact absurd hi (by simp)
  rw [if_neg g1] at hi
  by_cases g2 : outB x.Harm 0 10000000 = true
  ·rw [if_pos g2] at hi; exact absurd hi (by simp)
  rw [if_neg g2] at hi
  by_cases g3 : outB x.Last 0 p.First = true
  ·rw [if_pos g3] at hi; exact absurd hi (by simp)
  exact ⟨outC.1 (by simpa using g0), outC.1 (by simpa using g1), outC.1 (by simpa using g2), outC.1 (by simpa using g3)⟩
theorem mul_bd {a b A B : Int} (h0 : 0 ≤ a) (h1 : a ≤ A) (h2 : 0 ≤ b) (h3 : b ≤ B) : 0 ≤ a * b ∧ a * b ≤ A * B := ⟨Int.mul_nonneg h0 h2, Int.mul_le_mul h1 h3 h2 (by omega)⟩
def benN (L a R : Int) : Int := (L * a * R).tdiv 1000000000
def leftN (p : TRoProgramme) (k : Int) : Int := ((p.Budgets.length : Int) - k) * p.Days
def sinceN (p : TRoProgramme) (x : TRoAsset) (k : Int) : Int := p.First + k * p.Days - x.Last
theorem ben_ok {p : TRoProgramme} (hv : ProgV p) {x : TRoAsset} (hx : x ∈ p.Assets) {k : Int} (h0 : 0 ≤ k) (h1 : k < p.Budgets.length) :
  benE p x k = benN (leftN p k) (sinceN p x k) (x.Rate * x.Harm) ∧ (0 ≤ leftN p k ∧ leftN p k ≤ 12000) ∧ (0 ≤ sinceN p x k ∧ sinceN p x k ≤ 48000) ∧ (0 ≤ x.Rate * x.Harm ∧ x.Rate * x.Harm ≤ 10000000000) ∧
   (0 ≤ leftN p k * sinceN p x k ∧ leftN p k * sinceN p x k ≤ 576000000) ∧ (0 ≤ leftN p k * sinceN p x k * (x.Rate * x.Harm) ∧ leftN p k * sinceN p x k * (x.Rate * x.Harm) ≤ 5760000000000000000) ∧ (0 ≤ k * p.Days ∧ k * p.Days ≤ 8000) := by
 have hbl := hv.bl
 have hd := hv.days
 have hf := hv.first
 obtain ⟨_, hr, hh, hl⟩ := hv.ass x hx
 have b1 := mul_bd (a := (p.Budgets.length : Int) - k) (b := p.Days) (A := 3) (B := 4000) (by omega) (by omega) (by omega) (by omega)
 have b2 := mul_bd (a := k) (b := p.Days) (A := 2) (B := 4000) (by omega) (by omega) (by omega) (by omega)
 have b3 := mul_bd hr.1 hr.2 hh.1 hh.2
 have b4 : 0 ≤ sinceN p x k ∧ sinceN p x k ≤ 48000 := by unfold sinceN; generalize k * p.Days = z at *; omega
 have b5 := mul_bd (a := leftN p k) (b := sinceN p x k) (A := 12000) (B := 48000) b1.1 b1.2 b4.1 b4.2
 have b6 := mul_bd (a := leftN p k * sinceN p x k) (b := x.Rate * x.Harm) (A := 576000000) (B := 10000000000) b5.1 b5.2 b3.1 b3.2
 refine ⟨?_, b1, b4, b3, b5, b6, b2⟩
 unfold benE benF benN
 have w1 : IntKind.i64.wrap ((p.Budgets.length : Int) - k) = (p.Budgets.length : Int) - k := i64 (by omega)
 rw [w1]
 have w2 : IntKind.i64.wrap (((p.Budgets.length : Int) - k) * p.Days) = leftN p k := by
  show _ = ((p.Budgets.length : Int) - k) * p.Days
  generalize ((p.Budgets.length : Int) - k) * p.Days = z at b1
  exact i64 (by omega)
 have w3 : IntKind.i64.wrap (k * p.Days) = k * p.Days := by generalize k * p.Days = z at b2; exact i64 (by omega)
 have w4 : IntKind.i64.wrap (p.First + k * p.Days) = p.First + k * p.Days := by generalize k * p.Days = z at b2; exact i64 (by omega)
 have w5 : IntKind.i64.wrap (p.First + k * p.Days - x.Last) = sinceN p x k := by show _ = p.First + k * p.Days - x.Last; generalize k * p.Days = z at b2; exact i64 (by omega)
 have w6 : IntKind.i64.wrap (x.Rate * x.Harm) = x.Rate * x.Harm := by generalize x.Rate * x.Harm = z at b3; exact i64 (by omega)
 rw [w2, w3, w4, w5, w6]
 have w7 : IntKind.i64.wrap (leftN p k * sinceN p x k) = leftN p k * sinceN p x k := by generalize leftN p k * sinceN p x k = z at b5; exact i64 (by omega)
 rw [w7]
 have w8 : IntKind.i64.wrap (leftN p k * sinceN p x k * (x.Rate * x.Harm)) = leftN p k * sinceN p x k * (x.Rate * x.Harm) := by generalize leftN p k * sinceN p x k * (x.Rate * x.Harm) = z at b6; exact i64 (by omega)
 rw [w8]
 generalize leftN p k * sinceN p x k * (x.Rate * x.Harm) = z at b6
 have : z.tdiv 1000000000 = z / 1000000000 := Int.tdiv_eq_ediv_of_nonneg b6.1
 rw [this]
 exact i64 (by omega)
end Go.Proofs.YtdeeekgohhkdbaaGreatDoor

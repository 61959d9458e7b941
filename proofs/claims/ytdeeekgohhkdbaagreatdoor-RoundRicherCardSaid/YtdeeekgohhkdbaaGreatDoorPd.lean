/- Plain: what is so of a programme that is valid; the benefit of an inspection, without bounds. Contracts: the document's answers about programmes. Contracts: the document's check of a programme, and its benefit. -/
import Derived.Test.YtdeeekgohhkdbaaGreatDoorPa
import Derived.Test.YtdeeekgohhkdbaaGreatDoorRq
import Derived.Test.YtdeeekgohhkdbaaGreatDoorSk
namespace Go.Proofs.YtdeeekgohhkdbaaGreatDoor
structure ProgV (p:TRoProgramme):Prop where
 al:p.Assets.length ≤ 6
 bl:p.Budgets.length ≤ 3
 first:0 ≤ p.First ∧ p.First ≤ 40000
 days:1 ≤ p.Days ∧ p.Days ≤ 4000
 bud:∀ n ∈ p.Budgets,0 ≤ n ∧ n ≤ 10000000
 ass:∀ x ∈ p.Assets,(0 ≤ x.Cost ∧ x.Cost ≤ 1000000) ∧ (0 ≤ x.Rate ∧ x.Rate ≤ 1000) ∧ (0 ≤ x.Harm ∧ x.Harm ≤ 10000000) ∧ (0 ≤ x.Last ∧ x.Last ≤ p.First)
theorem prog_ok {p:TRoProgramme} (h:(progE p).2 = 0):ProgV p:=by
 unfold progE at h
 by_cases h0:p.Assets.length > 6
 ·rw [if_pos h0] at h; exact absurd h (by simp)
 rw [if_neg h0] at h
 by_cases h1:p.Budgets.length > 3
 ·rw [if_pos h1] at h; exact absurd h (by simp)
 rw [if_neg h1] at h
 by_cases h2:outB p.First 0 40000 = true
 ·rw [if_pos h2] at h; exact absurd h (by simp)
 rw [if_neg h2] at h
 by_cases h3:outB p.Days 1 4000 = true
 ·rw [if_pos h3] at h; exact absurd h (by simp)
 rw [if_neg h3] at h
 by_cases h4:p.Budgets.any richB = true
 ·rw [if_pos h4] at h; exact absurd h (by simp)
 rw [if_neg h4] at h
 have h4:p.Budgets.any richB = false:=by simpa using h4
 refine ⟨by omega,by omega,outC.1 (by simpa using h2),outC.1 (by simpa using h3),fun n hn => ?_,fun x hx => ?_⟩
 ·have h5:richB n = false:=by simpa using List.any_eq_false.1 h4 n hn
  exact outC.1 h5
 ·obtain ⟨_,hi⟩:=errAt_zero h x hx
  have hi:assetE p x = 0:=hi
  unfold assetE at hi
  by_cases g0:outB x.Cost 0 1000000 = true
  ·rw [if_pos g0] at hi; exact absurd hi (by simp)
  rw [if_neg g0] at hi
  by_cases g1:outB x.Rate 0 1000 = true
  ·rw [if_pos g1] at hi; exact absurd hi (by simp)
  rw [if_neg g1] at hi
  by_cases g2:outB x.Harm 0 10000000 = true
  ·rw [if_pos g2] at hi; exact absurd hi (by simp)
  rw [if_neg g2] at hi
  by_cases g3:outB x.Last 0 p.First = true
  ·rw [if_pos g3] at hi; exact absurd hi (by simp)
  exact ⟨outC.1 (by simpa using g0),outC.1 (by simpa using g1),outC.1 (by simpa using g2),outC.1 (by simpa using g3)⟩
theorem mul_bd {a b A B:Int} (h0:0 ≤ a) (h1:a ≤ A) (h2:0 ≤ b) (h3:b ≤ B):0 ≤ a * b ∧ a * b ≤ A * B:=⟨Int.mul_nonneg h0 h2,Int.mul_le_mul h1 h3 h2 (by omega)⟩
def benN (L a R:Int):Int:=(L * a * R).tdiv 1000000000
def leftN (p:TRoProgramme) (k:Int):Int:=((p.Budgets.length:Int) - k) * p.Days
def sinceN (p:TRoProgramme) (x:TRoAsset) (k:Int):Int:=p.First + k * p.Days - x.Last
theorem ben_ok {p:TRoProgramme} (hv:ProgV p) {x:TRoAsset} (hx:x ∈ p.Assets) {k:Int} (h0:0 ≤ k) (h1:k < p.Budgets.length) :
  benE p x k = benN (leftN p k) (sinceN p x k) (x.Rate * x.Harm) ∧ (0 ≤ leftN p k ∧ leftN p k ≤ 12000) ∧ (0 ≤ sinceN p x k ∧ sinceN p x k ≤ 48000) ∧ (0 ≤ x.Rate * x.Harm ∧ x.Rate * x.Harm ≤ 10000000000) ∧
   (0 ≤ leftN p k * sinceN p x k ∧ leftN p k * sinceN p x k ≤ 576000000) ∧ (0 ≤ leftN p k * sinceN p x k * (x.Rate * x.Harm) ∧ leftN p k * sinceN p x k * (x.Rate * x.Harm) ≤ 5760000000000000000) ∧ (0 ≤ k * p.Days ∧ k * p.Days ≤ 8000):=by
 have hbl:=hv.bl
 have hd:=hv.days
 have hf:=hv.first
 obtain ⟨_,hr,hh,hl⟩:=hv.ass x hx
 have b1:=mul_bd (a:=(p.Budgets.length:Int) - k) (b:=p.Days) (A:=3) (B:=4000) (by omega) (by omega) (by omega) (by omega)
 have b2:=mul_bd (a:=k) (b:=p.Days) (A:=2) (B:=4000) (by omega) (by omega) (by omega) (by omega)
 have b3:=mul_bd hr.1 hr.2 hh.1 hh.2
 have b4:0 ≤ sinceN p x k ∧ sinceN p x k ≤ 48000:=by unfold sinceN; generalize k * p.Days = z at *; omega
 have b5:=mul_bd (a:=leftN p k) (b:=sinceN p x k) (A:=12000) (B:=48000) b1.1 b1.2 b4.1 b4.2
 have b6:=mul_bd (a:=leftN p k * sinceN p x k) (b:=x.Rate * x.Harm) (A:=576000000) (B:=10000000000) b5.1 b5.2 b3.1 b3.2
 refine ⟨?_,b1,b4,b3,b5,b6,b2⟩
 unfold benE benF benN
 have w1:IntKind.i64.wrap ((p.Budgets.length:Int) - k) = (p.Budgets.length:Int) - k:=i64 (by omega)
 rw [w1]
 have w2:IntKind.i64.wrap (((p.Budgets.length:Int) - k) * p.Days) = leftN p k:=by
  show _ = ((p.Budgets.length:Int) - k) * p.Days
  generalize ((p.Budgets.length:Int) - k) * p.Days = z at b1
  exact i64 (by omega)
 have w3:IntKind.i64.wrap (k * p.Days) = k * p.Days:=by generalize k * p.Days = z at b2; exact i64 (by omega)
 have w4:IntKind.i64.wrap (p.First + k * p.Days) = p.First + k * p.Days:=by generalize k * p.Days = z at b2; exact i64 (by omega)
 have w5:IntKind.i64.wrap (p.First + k * p.Days - x.Last) = sinceN p x k:=by show _ = p.First + k * p.Days - x.Last; generalize k * p.Days = z at b2; exact i64 (by omega)
 have w6:IntKind.i64.wrap (x.Rate * x.Harm) = x.Rate * x.Harm:=by generalize x.Rate * x.Harm = z at b3; exact i64 (by omega)
 rw [w2,w3,w4,w5,w6]
 have w7:IntKind.i64.wrap (leftN p k * sinceN p x k) = leftN p k * sinceN p x k:=by generalize leftN p k * sinceN p x k = z at b5; exact i64 (by omega)
 rw [w7]
 have w8:IntKind.i64.wrap (leftN p k * sinceN p x k * (x.Rate * x.Harm)) = leftN p k * sinceN p x k * (x.Rate * x.Harm):=by generalize leftN p k * sinceN p x k * (x.Rate * x.Harm) = z at b6; exact i64 (by omega)
 rw [w8]
 generalize leftN p k * sinceN p x k * (x.Rate * x.Harm) = z at b6
 have:z.tdiv 1000000000 = z / 1000000000:=Int.tdiv_eq_ediv_of_nonneg b6.1
 rw [this]
 exact i64 (by omega)
end Go.Proofs.YtdeeekgohhkdbaaGreatDoor
namespace Go.Proofs.YtdeeekgohhkdbaaGreatDoor
open Go.RowKit
end Go.Proofs.YtdeeekgohhkdbaaGreatDoor
namespace Go.Proofs.YtdeeekgohhkdbaaGreatDoor
open Go.RowKit
def R24 (p:TRoProgramme) (S:SpecF) (_Fr:FreshF) (_Sq:SeqF) (Q:PostF):Prop :=
 (decide ((↑(List.map TRoAsset.av p.Assets).length:Int) > (6:Int)) = true → Q (.tup [iN (-1:Int),iN 3]) []) ∧ (decide ((↑(List.map TRoAsset.av p.Assets).length:Int) > (6:Int)) = false → (decide ((↑(List.map (AV.int IntKind.i64) p.Budgets).length:Int) > (3:Int)) = true → Q (.tup [iN (-1:Int),iN 3]) []) ∧ (decide ((↑(List.map (AV.int IntKind.i64) p.Budgets).length:Int) > (3:Int)) = false → ∃ (J4:List AV → Prop),(∃ b6,S 78 [iN p.First,iN 0,iN 40000] [] (.bool b6) [] ∧ (b6 = true → ∃ b10,S 78 [iN p.Days,iN 1,iN 4000] [] (.bool b10) [] ∧ p.cs = p.cs ∧ J4 [AV.bool b10]) ∧ (b6 = false → p.cs = p.cs ∧ J4 [AV.bool false])) ∧ ∀ (b6:Bool),J4 [AV.bool b6] → ∃ (I8:Nat → List AV → Prop),(∃ m10,I8 m10 [AV.bool b6,iN 0]) ∧ ∀ (m10:Nat) (b11:Bool) (n12:Int),I8 m10 [AV.bool b11,iN n12] → (decide (n12 < (↑(List.map (AV.int IntKind.i64) p.Budgets).length:Int)) = true → (b11 = true → ∃ n18,((0:Int) ≤ n12 ∧ (1:Nat) = (1:Nat) ∧ (List.map (AV.int IntKind.i64) p.Budgets)[n12.toNat]? = some (iN n18)) ∧ ∃ b20,S 78 [iN n18,iN 0,iN 10000000] [] (.bool b20) [] ∧ p.cs = p.cs ∧ ∃ k23,k23 < m10 ∧ I8 k23 [AV.bool b20,iN (IntKind.i64.wrap (n12 + 1))]) ∧ (b11 = false → p.cs = p.cs ∧ ∃ k19,k19 < m10 ∧ I8 k19 [AV.bool false,iN (IntKind.i64.wrap (n12 + 1))])) ∧ (decide (n12 < (↑(List.map (AV.int IntKind.i64) p.Budgets).length:Int)) = false → ((!b11) = true → Q (.tup [iN (-1:Int),iN 7]) []) ∧ ((!b11) = false → ∃ (I18:Nat → List AV → Prop),(∃ m20,I18 m20 [iN 0]) ∧ ∀ (m20:Nat) (n21:Int),I18 m20 [iN n21] → (decide (n21 < (↑(List.map TRoAsset.av p.Assets).length:Int)) = true → ∃ s25 n26 n27 n28 n29,((0:Int) ≤ n21 ∧ (5:Nat) = (5:Nat) ∧ (List.map TRoAsset.av p.Assets)[n21.toNat]? = some (.agg [AV.str s25,iN n26,iN n27,iN n28,iN n29])) ∧ ∃ b31,S 79 [AV.str s25] [] (.bool b31) [] ∧ ((!b31) = true → Q (.tup [iN n21,iN 6]) []) ∧ ((!b31) = false → ∃ (I35:Nat → List AV → Prop),(∃ m37,I35 m37 [iN 0]) ∧ ∀ (m37:Nat) (n38:Int),I35 m37 [iN n38] → (decide (n38 < n21) = true → ∃ s42 n43 n44 n45 n46,((0:Int) ≤ n38 ∧ (5:Nat) = (5:Nat) ∧ (List.map TRoAsset.av p.Assets)[n38.toNat]? = some (.agg [AV.str s42,iN n43,iN n44,iN n45,iN n46])) ∧ ((s42.toList == s25.toList) = true → Q (.tup [iN n21,iN 5]) []) ∧ ((s42.toList == s25.toList) = false → p.cs = p.cs ∧ Same [AV.str s25,iN n26,iN n27,iN n28,iN n29] ∧ ∃ k52,k52 < m37 ∧ I35 k52 [iN (IntKind.i64.wrap (n38 + 1))])) ∧ (decide (n38 < n21) = false → ∃ b42,S 78 [iN n26,iN 0,iN 1000000] [] (.bool b42) [] ∧ ((!b42) = true → Q (.tup [iN n21,iN 7]) []) ∧ ((!b42) = false → ∃ b46,S 78 [iN n27,iN 0,iN 1000] [] (.bool b46) [] ∧ ((!b46) = true → Q (.tup [iN n21,iN 7]) []) ∧ ((!b46) = false → ∃ b50,S 78 [iN n28,iN 0,iN 10000000] [] (.bool b50) [] ∧ ((!b50) = true → Q (.tup [iN n21,iN 7]) []) ∧ ((!b50) = false → ∃ b54,S 78 [iN n29,iN 0,iN p.First] [] (.bool b54) [] ∧ ((!b54) = true → Q (.tup [iN n21,iN 7]) []) ∧ ((!b54) = false → p.cs = p.cs ∧ ∃ k59,k59 < m20 ∧ I18 k59 [iN (IntKind.i64.wrap (n21 + 1))]))))))) ∧ (decide (n21 < (↑(List.map TRoAsset.av p.Assets).length:Int)) = false → Q (.tup TEncl.zero.cs) [])))))
theorem s24 (p:TRoProgramme) (v:AV) (O:List (List AV)) (h:R24 p Sp Fo So (fun r O' => r = v ∧ O' = O)):Sp 24 [p.av] [] v O :=
 spec_by (w:=⟨[],[],[],[],[]⟩) (k:=0) (keep:=⟨[0,1,2,3,4,5,6,7,8,18,31,44,49,60,64,75,100],[⟨5,[(4,.bool false),(5,iN 0)],[],[],[],[],[]⟩,⟨11,[(6,iN 0)],[],[],[],[],[]⟩,⟨17,[(8,iN 0)],[],[],[],[],[]⟩],[⟨4,[(4,.bool false)],[],[],[],[],[]⟩],[]⟩) (boxes:=[]) mixed (by exact trivial) Tryz.func24 Tryz.call24 rfl rfl rfl (Nat.le_of_ble_eq_true rfl) (by kernel_rfl) h
def R26 (p:TRoProgramme) (asset period:Int) (S:SpecF) (_Fr:FreshF) (_Sq:SeqF) (Q:PostF):Prop :=
 ∃ n0 n1,S 24 [p.av] [] (.tup [iN n0,iN n1]) [] ∧ ((n1 == 0) = true → ∃ b5,S 78 [iN asset,iN 0,iN (IntKind.i64.wrap ((↑(List.map TRoAsset.av p.Assets).length:Int) - (1:Int)))] [] (.bool b5) [] ∧ ((!b5) = true → Q (.tup [iN 0,iN 4]) []) ∧ ((!b5) = false → ∃ b9,S 78 [iN period,iN 0,iN (IntKind.i64.wrap ((↑(List.map (AV.int IntKind.i64) p.Budgets).length:Int) - (1:Int)))] [] (.bool b9) [] ∧ ((!b9) = true → Q (.tup [iN 0,iN 4]) []) ∧ ((!b9) = false → ((n1 != 0) = true → Q (.tup [iN 0,iN n1]) []) ∧ ((n1 != 0) = false → ∃ n15,S 81 [p.av,iN asset,iN period] [] (iN n15) [] ∧ Q (.tup [iN n15,iN 0]) [])))) ∧ ((n1 == 0) = false → ((n1 != 0) = true → Q (.tup [iN 0,iN n1]) []) ∧ ((n1 != 0) = false → ∃ n7,S 81 [p.av,iN asset,iN period] [] (iN n7) [] ∧ Q (.tup [iN n7,iN 0]) []))
theorem s26 (p:TRoProgramme) (asset:Int) (period:Int) (v:AV) (O:List (List AV)) (h:R26 p asset period Sp Fo So (fun r O' => r = v ∧ O' = O)):Sp 26 [p.av,iN asset,iN period] [] v O :=
 spec_by (w:=⟨[],[],[],[],[]⟩) (k:=0) (keep:=⟨[0,1,2,3,6,7,9,34,36],[],[],[]⟩) (boxes:=[]) mixed (by exact trivial) Tryz.func26 Tryz.call26 rfl rfl rfl (Nat.le_of_ble_eq_true rfl) (by kernel_rfl) h
end Go.Proofs.YtdeeekgohhkdbaaGreatDoor

/- Contracts: RoundBounds. -/
import Derived.Test.YtdeeekgohhkdbaaGreatDoorMe
import Derived.Test.YtdeeekgohhkdbaaGreatDoorOd
namespace Go.Proofs.YtdeeekgohhkdbaaGreatDoor
open Go.RowKit
/- cells -/
def R38 (p:TRoProgramme) (periods:List Int) (S:SpecF) (_Fr:FreshF) (_Sq:SeqF) (Q:PostF):Prop :=
 (((↑(List.map (AV.int IntKind.i64) periods).length:Int) != (↑(List.map TRoAsset.av p.Assets).length:Int)) = true → Q (.tup [iN 0,.bool false]) []) ∧ (((↑(List.map (AV.int IntKind.i64) periods).length:Int) != (↑(List.map TRoAsset.av p.Assets).length:Int)) = false → elemsOf (1:Nat) (List.map (AV.int IntKind.i64) p.Budgets) ∧ ((([]:List AV) = [] ∨ (0:Nat) < (List.map (AV.int IntKind.i64) p.Budgets).length) ∧ ((0:Nat) + (List.map (AV.int IntKind.i64) p.Budgets).length + (512:Nat)) * 41 ≤ (1125899906842624:Nat) ∧ elemsOf (1:Nat) [] ∧ ones (List.flatMap AV.cells (List.map (AV.int IntKind.i64) p.Budgets)) = true ∧ ones [] = true) ∧ ∃ (I4:Nat → List AV → Prop),(∃ m6,I4 m6 [iN 0,iN 0,.agg (AV.normL ([] ++ List.flatMap AV.cells (List.map (AV.int IntKind.i64) p.Budgets)))]) ∧ ∀ (m6:Nat) (n7 n8:Int) (cs9:List AV),I4 m6 [iN n7,iN n8,.agg cs9] → (decide (n8 < (↑(List.map (AV.int IntKind.i64) periods).length:Int)) = true → ∃ n13,((0:Int) ≤ n8 ∧ (1:Nat) = (1:Nat) ∧ (List.map (AV.int IntKind.i64) periods)[n8.toNat]? = some (iN n13)) ∧ ((n13 == (-1:Int)) = true → p.cs = p.cs ∧ ∃ k18,k18 < m6 ∧ I4 k18 [iN n7,iN (IntKind.i64.wrap (n8 + 1)),.agg (AV.normL cs9)]) ∧ ((n13 == (-1:Int)) = false → ∃ n17 n18,S 25 [p.av,iN n8,iN n13] [] (.tup [iN n17,iN n18]) [] ∧ ((n18 != 0) = true → Q (.tup [iN 0,.bool false]) []) ∧ ((n18 != 0) = false → (decide (n13 < 0) = true → Q (.tup [iN 0,.bool false]) []) ∧ (decide (n13 < 0) = false → (decide (n13 ≥ (↑((chunks (Tryz.prog.cellsOf (3:Nat)) (isAggT Tryz.prog (3:Nat)) (0:Nat) (AV.normL (List.replicate (0:Nat) (ofV (Value.int IntKind.i64 (0:Int))).cells).flatten)).length + (List.map (AV.int IntKind.i64) p.Budgets).length):Int)) = true → Q (.tup [iN 0,.bool false]) []) ∧ (decide (n13 ≥ (↑((chunks (Tryz.prog.cellsOf (3:Nat)) (isAggT Tryz.prog (3:Nat)) (0:Nat) (AV.normL (List.replicate (0:Nat) (ofV (Value.int IntKind.i64 (0:Int))).cells).flatten)).length + (List.map (AV.int IntKind.i64) p.Budgets).length):Int)) = false → ((0:Int) ≤ n13 ∧ n13 < (↑((0:Nat) + (List.map (AV.int IntKind.i64) p.Budgets).length):Int) ∧ (1:Nat) = (1:Nat)) ∧ ∃ n27,Option.map AV.norm (partA Tryz.prog (3:Nat) cs9 ((0:Nat) + n13.toNat * 1)) = some (iN n27) ∧ ∃ s29 n30 n31 n32 n33,((0:Int) ≤ n8 ∧ (5:Nat) = (5:Nat) ∧ (List.map TRoAsset.av p.Assets)[n8.toNat]? = some (.agg [AV.str s29,iN n30,iN n31,iN n32,iN n33])) ∧ (decide (n27 < n30) = true → Q (.tup [iN 0,.bool false]) []) ∧ (decide (n27 < n30) = false → ((0:Int) ≤ n13 ∧ n13 < (↑((0:Nat) + (List.map (AV.int IntKind.i64) p.Budgets).length):Int) ∧ (1:Nat) = (1:Nat)) ∧ ∃ n38,Option.map AV.norm (partA Tryz.prog (3:Nat) cs9 ((0:Nat) + n13.toNat * 1)) = some (iN n38) ∧ ∃ s40 n41 n42 n43 n44,((0:Int) ≤ n8 ∧ (5:Nat) = (5:Nat) ∧ (List.map TRoAsset.av p.Assets)[n8.toNat]? = some (.agg [AV.str s40,iN n41,iN n42,iN n43,iN n44])) ∧ ((0:Int) ≤ n13 ∧ n13 < (↑((0:Nat) + (List.map (AV.int IntKind.i64) p.Budgets).length):Int) ∧ (1:Nat) = (1:Nat)) ∧ (0:Nat) + n13.toNat * 1 + (1:Nat) ≤ cs9.length ∧ p.cs = p.cs ∧ ∃ k49,k49 < m6 ∧ I4 k49 [iN (IntKind.i64.wrap (n7 + n17)),iN (IntKind.i64.wrap (n8 + 1)),.agg (AV.normL (setCells cs9 ((0:Nat) + n13.toNat * 1) [iN (IntKind.i64.wrap (n38 - n41))]))])))))) ∧ (decide (n8 < (↑(List.map (AV.int IntKind.i64) periods).length:Int)) = false → Q (.tup [iN n7,.bool true]) []))
theorem s38 (p:TRoProgramme) (periods:List Int) (v:AV) (O:List (List AV)) (h:R38 p periods Sp Fo So (fun r O' => r = v ∧ O' = O)):Sp 38 [p.av,.slc 3 (List.map (AV.int .i64) periods)] [] v O :=
 spec_by (w:=⟨[],[],[],[],[]⟩) (k:=0) (keep:=⟨[0,1,2,4,5,6,7,8,9,10,11,17,25,33,65],[⟨6,[(7,iN 0),(8,iN 0)],[],[(21,.tup [])],[],[],[]⟩],[],[]⟩) (boxes:=[]) mixed (by exact trivial) Tryz.func38 Tryz.call38 rfl rfl rfl (Nat.le_of_ble_eq_true rfl) (by kernel_rfl) h
theorem sumF_ok:∀ (P B:List Int) (a A:Int),(∀ n ∈ P,0 ≤ n ∧ n ≤ 1000000) → (∀ n ∈ B,0 ≤ n ∧ n ≤ 10000000) → 0 ≤ a → a ≤ A → A + P.length * 10000000000000 < 9223372036854775807 →
  sumF P B a = a + sumN P B ∧ 0 ≤ sumN P B ∧ sumN P B ≤ P.length * 10000000000000:=by
 intro P
 induction P with
 | nil => intro B a A _ _ _ _ _; cases B <;> simp [sumF,sumN]
 | cons n r ih =>
  intro B a A hP hB h0 h1 h2
  cases B with
  | nil =>
   have e1:sumN (n :: r) [] = 0:=rfl
   have e2:sumF (n :: r) [] a = a:=rfl
   exact ⟨by rw [e1,e2,Int.add_zero],by rw [e1]; exact Int.le_refl _,by rw [e1]; omega⟩
  | cons b s =>
   simp only [sumF,sumN]
   have hn:=hP n (by simp)
   have hb:=hB b (by simp)
   have hm:=mul_bd hn.1 hn.2 hb.1 hb.2
   simp only [List.length_cons] at h2 ⊢
   push_cast at h2 ⊢
   generalize n * b = z at *
   have w1:IntKind.i64.wrap z = z:=i64 (by omega)
   have w2:IntKind.i64.wrap (a + z) = a + z:=i64 (by omega)
   rw [w1,w2]
   obtain ⟨e1,e2,e3⟩:=ih s (a + z) (A + 10000000000000) (fun m hm => hP m (by simp [hm])) (fun m hm => hB m (by simp [hm])) (by omega) (by omega) (by omega)
   rw [e1]
   omega
theorem mostF_ok {p:TRoProgramme} (hv:ProgV p) {x:TRoAsset} (hx:x ∈ p.Assets):∀ (P:List Int) (i:Nat) (a:Int),(∀ n ∈ P,0 ≤ n ∧ n ≤ 1000000) → i + P.length ≤ p.Budgets.length → 0 ≤ a → a ≤ 5760000000000 →
  mostF p x P i a = mostN p x P i a ∧ 0 ≤ mostN p x P i a ∧ mostN p x P i a ≤ 5760000000000:=by
 intro P
 induction P with
 | nil => intro i a _ _ h0 h1; exact ⟨rfl,h0,h1⟩
 | cons n r ih =>
  intro i a hP hl h0 h1
  simp only [List.length_cons] at hl
  have hn:=hP n (by simp)
  have hc:=(hv.ass x hx).1
  have hb:=ben_in hv hx (i:=i) (by omega)
  have hm:=mul_bd hn.1 hn.2 hc.1 hc.2
  simp only [mostF,mostN]
  generalize n * x.Cost = z at *
  generalize benE p x (i:Int) = y at *
  have w1:IntKind.i64.wrap (1000 * y) = 1000 * y:=i64 (by omega)
  have w2:IntKind.i64.wrap z = z:=i64 (by omega)
  have w3:IntKind.i64.wrap (1000 * y - z) = 1000 * y - z:=i64 (by omega)
  rw [w1,w2,w3]
  have hmax:maxE a (1000 * y - z) = max a (1000 * y - z):=by unfold maxE; split <;> omega
  rw [hmax]
  exact ih (i + 1) _ (fun m hm => hP m (by simp [hm])) (by omega) (by omega) (by omega)
theorem allF_ok {p:TRoProgramme} (hv:ProgV p) {P:List Int} (hP:∀ n ∈ P,0 ≤ n ∧ n ≤ 1000000) (hl:P.length ≤ p.Budgets.length):∀ (xs:List TRoAsset) (a A:Int),(∀ x ∈ xs,x ∈ p.Assets) → 0 ≤ a → a ≤ A → A + xs.length * 5760000000000 < 9223372036854775807 →
  allF p P xs a = a + allN p P xs ∧ 0 ≤ allN p P xs ∧ allN p P xs ≤ xs.length * 5760000000000:=by
 intro xs
 induction xs with
 | nil => intro a A _ _ _ _; simp [allF,allN]
 | cons x r ih =>
  intro a A hx h0 h1 h2
  obtain ⟨m1,m2,m3⟩:=mostF_ok hv (hx x (by simp)) P 0 0 hP (by omega) (by omega) (by omega)
  simp only [allF,allN]
  simp only [List.length_cons] at h2 ⊢
  push_cast at h2 ⊢
  rw [m1,i64 (by omega)]
  obtain ⟨e1,e2,e3⟩:=ih (a + mostN p x P 0 0) (A + 5760000000000) (fun y hy => hx y (by simp [hy])) (by omega) (by omega) (by omega)
  rw [e1]
  omega
theorem bound_val {p:TRoProgramme} (h0:(progE p).2 = 0) {P:List Int} (hb:(boundR p P).2 = 0):P.length = p.Budgets.length ∧ (∀ n ∈ P,0 ≤ n ∧ n ≤ 1000000) ∧ (boundR p P).1 = (sumN P p.Budgets + allN p P p.Assets) / 1000:=by
 have hv:=prog_ok h0
 have hal:=hv.al
 have hbl:=hv.bl
 unfold boundR at hb ⊢
 rw [if_neg (by simp [h0])] at hb ⊢
 by_cases hl:P.length ≠ p.Budgets.length
 ·rw [if_pos hl] at hb; simp at hb
 rw [if_neg hl] at hb ⊢
 by_cases hp:P.any priceB = true
 ·rw [if_pos hp] at hb; simp at hb
 rw [if_neg hp]
 have hP:∀ n ∈ P,0 ≤ n ∧ n ≤ 1000000:=fun n hn => by
  have hp:P.any priceB = false:=by simpa using hp
  have h5:priceB n = false:=by simpa using List.any_eq_false.1 hp n hn
  exact outC.1 h5
 refine ⟨by omega,hP,?_⟩
 obtain ⟨s1,s2,s3⟩:=sumF_ok P p.Budgets 0 0 hP hv.bud (by omega) (by omega) (by omega)
 rw [Int.zero_add] at s1
 obtain ⟨a1,a2,a3⟩:=allF_ok hv hP (by omega) p.Assets (sumN P p.Budgets) 30000000000000 (fun x hx => hx) s2 (by omega) (by omega)
 show IntKind.i64.wrap _ = _
 rw [s1,a1,Int.tdiv_eq_ediv_of_nonneg (by omega),i64 (by omega)]
theorem choose_E (p:TRoProgramme):(chooseR p).2.2 = (progE p).2:=by
 unfold chooseR
 split
 ·rfl
 ·rename_i h; simpa using Eq.symm (Decidable.not_not.1 h)
def R13 (p:TRoProgramme) (prices periods:List Int) (S:SpecF) (_Fr:FreshF) (_Sq:SeqF) (Q:PostF):Prop :=
 ∃ es0 n1 n2,S 30 [p.av] [] (.tup [AV.slc 3 es0,iN n1,iN n2]) [] ∧ ((n2 != 0) = true → ∃ b6,S 17 [] [] (.bool b6) [] ∧ Q (.bool b6) []) ∧ ((n2 != 0) = false → ∃ n6 b7,S 38 [p.av,.slc 3 es0] [] (.tup [iN n6,.bool b7]) [] ∧ ((!b7) = true → Q (.bool false) []) ∧ ((!b7) = false → ((n6 != n1) = true → Q (.bool false) []) ∧ ((n6 != n1) = false → ∃ n13 n14,S 33 [p.av,.slc 3 (List.map (AV.int IntKind.i64) prices)] [] (.tup [iN n13,iN n14]) [] ∧ ((n14 == 0) = true → (decide (n13 < n1) = true → Q (.bool false) []) ∧ (decide (n13 < n1) = false → ∃ n20 b21,S 38 [p.av,.slc 3 (List.map (AV.int IntKind.i64) periods)] [] (.tup [iN n20,.bool b21]) [] ∧ ((!b21) = true → ∃ b25,S 17 [] [] (.bool b25) [] ∧ Q (.bool b25) []) ∧ ((!b21) = false → (decide (n20 ≤ n1) = true → ∃ b27,S 17 [] [] (.bool b27) [] ∧ Q (.bool b27) []) ∧ (decide (n20 ≤ n1) = false → Q (.bool false) [])))) ∧ ((n14 == 0) = false → ∃ n18 b19,S 38 [p.av,.slc 3 (List.map (AV.int IntKind.i64) periods)] [] (.tup [iN n18,.bool b19]) [] ∧ ((!b19) = true → ∃ b23,S 17 [] [] (.bool b23) [] ∧ Q (.bool b23) []) ∧ ((!b19) = false → (decide (n18 ≤ n1) = true → ∃ b25,S 17 [] [] (.bool b25) [] ∧ Q (.bool b25) []) ∧ (decide (n18 ≤ n1) = false → Q (.bool false) []))))))
theorem s13 (p:TRoProgramme) (prices:List Int) (periods:List Int) (v:AV) (O:List (List AV)) (h:R13 p prices periods Sp Fo So (fun r O' => r = v ∧ O' = O)):Sp 13 [p.av,.slc 3 (List.map (AV.int .i64) prices),.slc 3 (List.map (AV.int .i64) periods)] [] v O :=
 spec_by (w:=⟨[],[],[],[],[]⟩) (k:=0) (keep:=⟨[0,1,2,3,6,7,8,9,10,11,12,20,34,47],[],[],[]⟩) (boxes:=[]) mixed (by exact trivial) Tryz.func13 Tryz.call13 rfl rfl rfl (Nat.le_of_ble_eq_true rfl) (by kernel_rfl) h
end Go.Proofs.YtdeeekgohhkdbaaGreatDoor

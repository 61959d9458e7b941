/- Contracts: the document's bound; RoundChooses. -/
import Derived.Test.YtdeeekgohhkdbaaGreatDoorMd
import Derived.Test.YtdeeekgohhkdbaaGreatDoorOd
namespace Go.Proofs.YtdeeekgohhkdbaaGreatDoor
open Go.RowKit
theorem maxE_if (a b:Int):maxE a b = if b > a then b else a:=rfl
def R34 (p:TRoProgramme) (prices:List Int) (S:SpecF) (_Fr:FreshF) (_Sq:SeqF) (Q:PostF):Prop :=
 ∃ n0 n1,S 24 [p.av] [] (.tup [iN n0,iN n1]) [] ∧ ∃ (J3:List AV → Prop),(((n1 == 0) = true → (((↑(List.map (AV.int IntKind.i64) prices).length:Int) != (↑(List.map (AV.int IntKind.i64) p.Budgets).length:Int)) = true → p.cs = p.cs ∧ J3 [iN 2]) ∧ (((↑(List.map (AV.int IntKind.i64) prices).length:Int) != (↑(List.map (AV.int IntKind.i64) p.Budgets).length:Int)) = false → p.cs = p.cs ∧ J3 [iN n1])) ∧ ((n1 == 0) = false → p.cs = p.cs ∧ J3 [iN n1])) ∧ ∀ (n5:Int),J3 [iN n5] → ∃ (J7:List AV → Prop),(∃ (I9:Nat → List AV → Prop),(∃ m11,I9 m11 [iN n5,iN 0]) ∧ ∀ (m11:Nat) (n12 n13:Int),I9 m11 [iN n12,iN n13] → (decide (n13 < (↑(List.map (AV.int IntKind.i64) prices).length:Int)) = true → ((n12 == 0) = true → ∃ n19,((0:Int) ≤ n13 ∧ (1:Nat) = (1:Nat) ∧ (List.map (AV.int IntKind.i64) prices)[n13.toNat]? = some (iN n19)) ∧ ∃ b21,S 78 [iN n19,iN 0,iN 1000000] [] (.bool b21) [] ∧ ((!b21) = true → p.cs = p.cs ∧ ∃ k26,k26 < m11 ∧ I9 k26 [iN 7,iN (IntKind.i64.wrap (n13 + 1))]) ∧ ((!b21) = false → p.cs = p.cs ∧ ∃ k26,k26 < m11 ∧ I9 k26 [iN n12,iN (IntKind.i64.wrap (n13 + 1))])) ∧ ((n12 == 0) = false → p.cs = p.cs ∧ J7 [iN n12])) ∧ (decide (n13 < (↑(List.map (AV.int IntKind.i64) prices).length:Int)) = false → p.cs = p.cs ∧ J7 [iN n12])) ∧ ∀ (n9:Int),J7 [iN n9] → ((n9 != 0) = true → Q (.tup [iN 0,iN n9]) []) ∧ ((n9 != 0) = false → ∃ (I13:Nat → List AV → Prop),(∃ m15,I13 m15 TEncl.zero.cs) ∧ ∀ (m15:Nat) (n16 n17:Int),I13 m15 [iN n16,iN n17] → (decide (n17 < (↑(List.map (AV.int IntKind.i64) prices).length:Int)) = true → ∃ n21,((0:Int) ≤ n17 ∧ (1:Nat) = (1:Nat) ∧ (List.map (AV.int IntKind.i64) prices)[n17.toNat]? = some (iN n21)) ∧ ∃ n23,((0:Int) ≤ n17 ∧ (1:Nat) = (1:Nat) ∧ (List.map (AV.int IntKind.i64) p.Budgets)[n17.toNat]? = some (iN n23)) ∧ p.cs = p.cs ∧ ∃ k26,k26 < m15 ∧ I13 k26 [iN (IntKind.i64.wrap (n16 + IntKind.i64.wrap (n21 * n23))),iN (IntKind.i64.wrap (n17 + 1))]) ∧ (decide (n17 < (↑(List.map (AV.int IntKind.i64) prices).length:Int)) = false → ∃ (I21:Nat → List AV → Prop),(∃ m23,I21 m23 [iN n16,iN 0]) ∧ ∀ (m23:Nat) (n24 n25:Int),I21 m23 [iN n24,iN n25] → (decide (n25 < (↑(List.map TRoAsset.av p.Assets).length:Int)) = true → ∃ (I29:Nat → List AV → Prop),(∃ m31,I29 m31 TEncl.zero.cs) ∧ ∀ (m31:Nat) (n32 n33:Int),I29 m31 [iN n32,iN n33] → (decide (n33 < (↑(List.map (AV.int IntKind.i64) prices).length:Int)) = true → ∃ n37,S 81 [p.av,iN n25,iN n33] [] (iN n37) [] ∧ ∃ s39 n40 n41 n42 n43,((0:Int) ≤ n25 ∧ (5:Nat) = (5:Nat) ∧ (List.map TRoAsset.av p.Assets)[n25.toNat]? = some (.agg [AV.str s39,iN n40,iN n41,iN n42,iN n43])) ∧ ∃ n45,((0:Int) ≤ n33 ∧ (1:Nat) = (1:Nat) ∧ (List.map (AV.int IntKind.i64) prices)[n33.toNat]? = some (iN n45)) ∧ p.cs = p.cs ∧ ∃ k48,k48 < m31 ∧ I29 k48 [iN (if IntKind.i64.wrap (IntKind.i64.wrap ((1000:Int) * n37) - IntKind.i64.wrap (n40 * n45)) > n32 then IntKind.i64.wrap (IntKind.i64.wrap ((1000:Int) * n37) - IntKind.i64.wrap (n40 * n45)) else n32),iN (IntKind.i64.wrap (n33 + 1))]) ∧ (decide (n33 < (↑(List.map (AV.int IntKind.i64) prices).length:Int)) = false → p.cs = p.cs ∧ ∃ k38,k38 < m23 ∧ I21 k38 [iN (IntKind.i64.wrap (n24 + n32)),iN (IntKind.i64.wrap (n25 + 1))])) ∧ (decide (n25 < (↑(List.map TRoAsset.av p.Assets).length:Int)) = false → Q (.tup [iN (IntKind.i64.wrap (n24.tdiv (1000:Int))),iN 0]) [])))
theorem s34 (p:TRoProgramme) (prices:List Int) (v:AV) (O:List (List AV)) (h:R34 p prices Sp Fo So (fun r O' => r = v ∧ O' = O)):Sp 34 [p.av,.slc 3 (List.map (AV.int .i64) prices)] [] v O :=
 spec_by (w:=⟨[],[],[],[],[]⟩) (k:=0) (keep:=⟨[0,1,2,4,5,7,8,9,10,11,12,13,28,36,44,46,51,70,76],[⟨5,[(7,iN 0),(8,iN 0)],[],[],[],[],[]⟩,⟨13,[(9,iN 0),(10,iN 0)],[],[],[],[],[]⟩,⟨17,[(9,iN 0),(11,iN 0)],[],[],[],[],[]⟩,⟨21,[(12,iN 0),(13,iN 0)],[],[],[],[],[]⟩],[⟨4,[(7,iN 0)],[],[],[],[],[]⟩,⟨9,[(7,iN 0)],[],[],[],[],[]⟩],[]⟩) (boxes:=[]) mixed (by exact trivial) Tryz.func34 Tryz.call34 rfl rfl rfl (Nat.le_of_ble_eq_true rfl) (by kernel_rfl) h
theorem c34 (p:TRoProgramme) (hp:ProgIn p) (prices:List Int):Sp 34 [p.av,.slc 3 (prices.map (AV.int .i64))] [] (.tup [.int .i64 (boundR p prices).1,.int .i64 (boundR p prices).2]) []:=s34 p prices _ _ (by
 unfold R34
 simp only [List.length_map]
 refine ⟨_,_,c24 p hp,?_⟩
 let e0:Int:=if (progE p).2 = 0 ∧ prices.length ≠ p.Budgets.length then 2 else (progE p).2
 let e1:Int:=if e0 = 0 ∧ prices.any priceB = true then 7 else e0
 have hb:boundR p prices = if e1 ≠ 0 then (0,e1) else (IntKind.i64.wrap ((allF p prices p.Assets (sumF prices p.Budgets 0)).tdiv 1000),0):=by
  unfold boundR
  by_cases h0:(progE p).2 = 0
  ·rw [if_neg (by simpa using h0)]
   by_cases h1:prices.length ≠ p.Budgets.length
   ·have:e0 = 2:=if_pos ⟨h0,h1⟩
    have h2:e1 = 2:=by simp only [e1,this]; rw [if_neg (by simp)]
    rw [if_pos h1,h2]; rfl
   ·have h3:e0 = 0:=by simp only [e0]; rw [if_neg (fun h => h1 h.2)]; exact h0
    rw [if_neg h1]
    by_cases h4:prices.any priceB = true
    ·have h2:e1 = 7:=if_pos ⟨h3,h4⟩
     rw [if_pos h4,h2]; rfl
    ·have h2:e1 = 0:=by simp only [e1]; rw [if_neg (fun h => h4 h.2)]; exact h3
     rw [if_neg h4,h2]; rfl
  ·have h3:e0 = (progE p).2:=if_neg (fun h => h0 h.1)
   have h2:e1 = (progE p).2:=by simp only [e1]; rw [if_neg (fun h => h0 (by rw [← h3]; exact h.1))]; exact h3
   rw [if_pos (by simpa using h0),h2,if_pos h0]
 have hzz:e0 = 0 → (progE p).2 = 0 ∧ prices.length = p.Budgets.length:=by
  intro h0
  by_cases hh:(progE p).2 = 0 ∧ prices.length ≠ p.Budgets.length
  ·have:e0 = 2:=if_pos hh
   omega
  ·have:e0 = (progE p).2:=if_neg hh
   refine ⟨by omega,?_⟩
   exact Decidable.byContradiction fun hne => hh ⟨by omega,hne⟩
 refine ⟨fun vs => vs = [.int .i64 e0],⟨fun h => ⟨fun g => ⟨by trivial,?_⟩,fun g => ⟨by trivial,?_⟩⟩,fun h => ⟨by trivial,?_⟩⟩,?_⟩
 ·have h:(progE p).2 = 0:=by simpa using h
  have g:prices.length ≠ p.Budgets.length:=by
   have:(prices.length:Int) ≠ (p.Budgets.length:Int):=by simpa using g
   omega
  show _ = [AV.int .i64 e0]
  rw [show e0 = 2 from if_pos ⟨h,g⟩]
 ·have g:(prices.length:Int) = (p.Budgets.length:Int):=by simpa using g
  show _ = [AV.int .i64 e0]
  rw [show e0 = (progE p).2 from if_neg (fun h => h.2 (by omega))]
 ·have h:¬ (progE p).2 = 0:=by simpa using h
  show _ = [AV.int .i64 e0]
  rw [show e0 = (progE p).2 from if_neg (fun g => h g.1)]
 intro n5 hn5
 have hn5:n5 = e0:=by simpa using hn5
 subst hn5
 refine ⟨fun vs => vs = [.int .i64 e1],⟨fun m vs => ∃ (k:Nat) (e:Int),vs = [.int .i64 e,.int .i64 k] ∧ k ≤ prices.length ∧ m = prices.length - k ∧ e = (if e0 = 0 ∧ (prices.take k).any priceB = true then 7 else e0),⟨_,0,e0,rfl,by omega,rfl,by rw [if_neg (by simp)]⟩,?_⟩,?_⟩
 ·rintro m n12 n13 ⟨k,e,hvs,hkl,rfl,he⟩
  cases hvs
  refine ⟨fun h => ?_,fun h => ⟨by trivial,?_⟩⟩
  ·have h:k < prices.length:=by have:=of_decide_eq_true h; omega
   have hst:=any_step (P:=priceB) (List.getElem?_eq_getElem h)
   refine ⟨fun g => ?_,fun g => ⟨by trivial,?_⟩⟩
   ·have g:n12 = 0:=by simpa using g
    have hz:e0 = 0 ∧ (prices.take k).any priceB = false:=by
     rw [g] at he
     by_cases h0:e0 = 0
     ·refine ⟨h0,?_⟩
      rw [← Bool.not_eq_true]
      intro hh
      rw [if_pos ⟨h0,hh⟩] at he; simp at he
     ·rw [if_neg (fun h => h0 h.1)] at he; exact absurd he.symm h0
    obtain ⟨hp0,hl0⟩:=hzz hz.1
    have hb3:=(prog_ok hp0).bl
    refine ⟨_,⟨by omega,by trivial,ints_get h⟩,_,c78 ..,fun q => ⟨by trivial,_,(by omega:prices.length - (k + 1) < prices.length - k),k + 1,7,?_,by omega,rfl,?_⟩,fun q => ⟨by trivial,_,(by omega:prices.length - (k + 1) < prices.length - k),k + 1,n12,?_,by omega,rfl,?_⟩⟩
    ·rw [wrapN (by omega)]
    ·rw [if_pos ⟨hz.1,by rw [hst,hz.2]; simpa [priceB] using q⟩]
    ·rw [wrapN (by omega)]
    ·have q:priceB prices[k] = false:=by simpa [priceB] using q
     rw [if_neg (by rw [hst,hz.2,q]; simp),g,hz.1]
   ·have g:¬ n12 = 0:=by simpa using g
    show _ = [AV.int .i64 e1]
    by_cases h0:e0 = 0
    ·by_cases h1:(prices.take k).any priceB = true
     ·rw [if_pos ⟨h0,h1⟩] at he
      have:prices.any priceB = true:=by
       obtain ⟨y,hy,hy'⟩:=List.any_eq_true.1 h1
       exact List.any_eq_true.2 ⟨y,List.mem_of_mem_take hy,hy'⟩
      rw [he,show e1 = 7 from if_pos ⟨h0,this⟩]
     ·rw [if_neg (fun h => h1 h.2)] at he
      exact absurd (he.trans h0) g
    ·rw [if_neg (fun h => h0 h.1)] at he
     rw [he,show e1 = e0 from if_neg (fun h => h0 h.1)]
  ·have h:k = prices.length:=by have:=of_decide_eq_false h; omega
   subst h
   rw [List.take_length] at he
   rw [he]
 intro n9 hn9
 have hn9:n9 = e1:=by simpa using hn9
 subst hn9
 refine ⟨fun h => ⟨?_,by trivial⟩,fun h => ?_⟩
 ·have h:e1 ≠ 0:=by simpa using h
  rw [hb,if_pos h]
 have h1:e1 = 0:=by simpa using h
 rw [hb,if_neg (by simpa using h1)]
 have h0:e0 = 0:=by
  by_cases hh:e0 = 0 ∧ prices.any priceB = true
  ·exact hh.1
  ·rw [← show e1 = e0 from if_neg hh]; exact h1
 have hpr:prices.any priceB = false:=by
  rw [← Bool.not_eq_true]
  intro hh
  have:e1 = 7:=if_pos ⟨h0,hh⟩
  omega
 have hz:=hzz h0
 obtain ⟨hz0,hlen⟩:=hz
 have hv:=prog_ok hz0
 have hal:=hv.al
 have hbl:=hv.bl
 refine ⟨fun m vs => ∃ (k:Nat) (a:Int),vs = [.int .i64 a,.int .i64 k] ∧ k ≤ prices.length ∧ m = prices.length - k ∧ sumF (prices.drop k) (p.Budgets.drop k) a = sumF prices p.Budgets 0,⟨_,0,0,rfl,by omega,rfl,rfl⟩,?_⟩
 rintro m n14 n15 ⟨k,a,hk,hle,rfl,hs⟩
 cases hk
 refine ⟨fun h3 => ?_,fun h3 => ?_⟩
 ·have h3:k < prices.length:=by have:=of_decide_eq_true h3; omega
  obtain ⟨n,hn,hn'⟩:=map_getN (f:=AV.int .i64) h3
  obtain ⟨b,hb,hb'⟩:=map_getN (f:=AV.int .i64) (l:=p.Budgets) (k:=k) (by omega)
  exact ⟨_,⟨by omega,by trivial,hn'⟩,_,⟨by omega,by trivial,hb'⟩,by trivial,_,(by omega:prices.length - (k + 1) < prices.length - k),k + 1,_,by rw [wrapN (by omega)],by omega,rfl,by rw [← hs,sumF_at hn hb]⟩
 ·have h3:k = prices.length:=by have:=of_decide_eq_false h3; omega
  subst h3
  have hs:n14 = sumF prices p.Budgets 0:=by rw [← hs,List.drop_length]; rfl
  subst hs
  refine ⟨fun m vs => ∃ (k:Nat) (a:Int),vs = [.int .i64 a,.int .i64 k] ∧ k ≤ p.Assets.length ∧ m = p.Assets.length - k ∧ allF p prices (p.Assets.drop k) a = allF p prices p.Assets (sumF prices p.Budgets 0),⟨_,0,_,rfl,by omega,rfl,rfl⟩,?_⟩
  rintro m n22 n23 ⟨k,a,hk,hle,rfl,hs⟩
  cases hk
  refine ⟨fun h3 => ?_,fun h3 => ?_⟩
  ·have h3:k < p.Assets.length:=by have:=of_decide_eq_true h3; omega
   obtain ⟨hx',hmem⟩:=asset_get (p:=p) (k:=(k:Int)) (by omega) (by omega)
   have hx:p.Assets[k]? = some (assetAt p k):=by
    unfold assetAt
    rw [Int.toNat_natCast,List.getD_eq_getElem?_getD,List.getElem?_eq_getElem h3]; rfl
   generalize hxe:assetAt p (k:Int) = x at hx' hmem hx
   refine ⟨fun m vs => ∃ (j:Nat) (a:Int),vs = [.int .i64 a,.int .i64 j] ∧ j ≤ prices.length ∧ m = prices.length - j ∧ mostF p x (prices.drop j) j a = mostF p x prices 0 0,⟨_,0,0,rfl,by omega,rfl,rfl⟩,?_⟩
   rintro m n36 n37 ⟨j,a',hj,hjl,rfl,hs'⟩
   cases hj
   refine ⟨fun h4 => ?_,fun h4 => ?_⟩
   ·have h4:j < prices.length:=by have:=of_decide_eq_true h4; omega
    obtain ⟨n,hn,hn'⟩:=map_getN (f:=AV.int .i64) h4
    have hbe:=c81 p hv (k:Int) (j:Int) (by omega) (by omega) (by omega) (by omega)
    rw [hxe] at hbe
    exact ⟨_,hbe,_,_,_,_,_,⟨by omega,by trivial,hx'⟩,_,⟨by omega,by trivial,hn'⟩,by trivial,_,(by omega:prices.length - (j + 1) < prices.length - j),j + 1,_,by rw [wrapN (by omega)],by omega,rfl,by rw [← hs',mostF_at hn,maxE_if,Int.mul_comm n x.Cost]⟩
   ·have h4:j = prices.length:=by have:=of_decide_eq_false h4; omega
    subst h4
    have hs':n36 = mostF p x prices 0 0:=by rw [← hs',List.drop_length]; rfl
    subst hs'
    exact ⟨by trivial,_,(by omega:p.Assets.length - (k + 1) < p.Assets.length - k),k + 1,_,by rw [wrapN (by omega)],by omega,rfl,by rw [← hs,allF_at hx]⟩
  ·have h3:k = p.Assets.length:=by have:=of_decide_eq_false h3; omega
   subst h3
   have hs:n22 = allF p prices p.Assets (sumF prices p.Budgets 0):=by rw [← hs,List.drop_length]; rfl
   rw [hs]; exact ⟨rfl,by trivial⟩)
theorem choose_len (p:TRoProgramme):(chooseR p).1.length ≤ 1000000:=by
 unfold chooseR
 split
 ·simp
 ·rename_i h
  have h0:(progE p).2 = 0:=by simpa using h
  have hv:=prog_ok h0
  have:=(feas_spR p (choose_best p).2.2).1
  have:=hv.al
  show (chooseN p).2.length ≤ _
  omega
def R9 (p:TRoProgramme) (prices:List Int) (S:SpecF) (_Fr:FreshF) (_Sq:SeqF) (Q:PostF):Prop :=
 ∃ es0 n1 n2,S 30 [p.av] [] (.tup [AV.slc 3 es0,iN n1,iN n2]) [] ∧ ∃ es4 n5 n6,S 31 [p.av] [] (.tup [AV.slc 3 es4,iN n5,iN n6]) [] ∧ ∃ b8,S 32 [AV.slc 3 es0,.slc 3 es4] [] (.bool b8) [] ∧ ((!b8) = true → Q (.bool false) []) ∧ ((!b8) = false → ((n1 != n5) = true → Q (.bool false) []) ∧ ((n1 != n5) = false → ((n2 != n6) = true → Q (.bool false) []) ∧ ((n2 != n6) = false → ∃ n16 n17,S 33 [p.av,.slc 3 (List.map (AV.int IntKind.i64) prices)] [] (.tup [iN n16,iN n17]) [] ∧ ∃ n19 n20,S 34 [p.av,.slc 3 (List.map (AV.int IntKind.i64) prices)] [] (.tup [iN n19,iN n20]) [] ∧ ((n16 == n19) = true → ((n17 == n20) = true → ∃ b26,S 17 [] [] (.bool b26) [] ∧ Q (.bool b26) []) ∧ ((n17 == n20) = false → Q (.bool false) [])) ∧ ((n16 == n19) = false → Q (.bool false) []))))
theorem s9 (p:TRoProgramme) (prices:List Int) (v:AV) (O:List (List AV)) (h:R9 p prices Sp Fo So (fun r O' => r = v ∧ O' = O)):Sp 9 [p.av,.slc 3 (List.map (AV.int .i64) prices)] [] v O :=
 spec_by (w:=⟨[],[],[],[],[]⟩) (k:=0) (keep:=⟨[0,1,2,4,5,6,7,8,9,10,36],[],[],[]⟩) (boxes:=[]) mixed (by exact trivial) Tryz.func9 Tryz.call9 rfl rfl rfl (Nat.le_of_ble_eq_true rfl) (by kernel_rfl) h
theorem progIn_ok {p:TRoProgramme} (h:p.Ok):ProgIn p:=fun x hx => (h.1.1 x hx).1
theorem c9 (p:TRoProgramme) (hp:p.Ok) (prices:List Int):Sp 9 [p.av,.slc 3 (prices.map (AV.int .i64))] [] (.bool true) []:=s9 p prices _ _ (by
 have hpi:=progIn_ok hp
 unfold R9
 refine ⟨_,_,_,c30 p hpi,_,_,_,c31 p hpi,_,c32 _ _ (by have:=choose_len p; omega),fun h => absurd h (by simp),fun _ => ⟨fun h => absurd h (by simp),fun _ => ⟨fun h => absurd h (by simp),fun _ => ⟨_,_,c33 p hpi prices,_,_,c34 p hpi prices,fun _ => ⟨fun _ => ⟨_,awake_ok,rfl,by trivial⟩,fun h => absurd h (by simp)⟩,fun h => absurd h (by simp)⟩⟩⟩⟩)
end Go.Proofs.YtdeeekgohhkdbaaGreatDoor

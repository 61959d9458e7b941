/- Contracts: RoundRicher. -/
import Derived.Test.YtdeeekgohhkdbaaGreatDoorMf
namespace Go.Proofs.YtdeeekgohhkdbaaGreatDoor
open Go.RowKit
def richer (p:TRoProgramme) (k:Nat) (v:Int):TRoProgramme:={ p with Budgets:=p.Budgets.set k v }
theorem benE_richer (p:TRoProgramme) (k:Nat) (v:Int) (x:TRoAsset) (i:Int):benE (richer p k v) x i = benE p x i:=by
 unfold benE richer
 simp only [List.length_set]
theorem progE_richer {p:TRoProgramme} (h0:(progE p).2 = 0) {k:Nat} {v:Int} (hv:0 ≤ v ∧ v ≤ 10000000):(progE (richer p k v)).2 = 0:=by
 have hp:=prog_ok h0
 have hr:∀ B:List Int,(∀ n ∈ B,0 ≤ n ∧ n ≤ 10000000) → B.any richB = false:=fun B hB => by
  rw [List.any_eq_false]
  intro n hn
  rw [Bool.not_eq_true]
  exact outC.2 (hB n hn)
 have h1:=hr p.Budgets hp.bud
 have h2:=hr (p.Budgets.set k v) (fun n hn => by
  rcases List.mem_or_eq_of_mem_set hn with h | rfl
  ·exact hp.bud n h
  ·exact hv)
 have:progE (richer p k v) = progE p:=by
  unfold progE richer
  simp only [List.length_set,h1,h2]
  rfl
 rw [this]; exact h0
theorem feas_richer {p q:TRoProgramme} (hb:∀ x i,benE q x i = benE p x i) {xs:List TRoAsset} {left per:List Int} {v:Int} (h:Feas p xs left per v):∀ left':List Int,left'.length = left.length → (∀ i,i < left.length → left.getD i 0 ≤ left'.getD i 0) → Feas q xs left' per v:=by
 induction h with
 | nil left => intro l _ _; exact .nil l
 | none _ ih => intro l h1 h2; exact .none (ih l h1 h2)
 | @some x r left per v i hi hc _ ih =>
  intro l h1 h2
  have h3:=h2 i hi
  rw [← hb]
  refine .some i (by omega) (by omega) (ih _ (by rw [List.length_set,List.length_set]; exact h1) fun j hj => ?_)
  rw [List.length_set] at hj
  rw [getD_set _ _ _ _ hi,getD_set _ _ _ _ (by omega)]
  split
  ·omega
  ·exact h2 j hj
theorem choose_richer {p:TRoProgramme} {k:Nat} {v:Int} (hk:k < p.Budgets.length) (hv:p.Budgets.getD k 0 ≤ v):(chooseN p).1 ≤ (chooseN (richer p k v)).1:=by
 refine (choose_best (richer p k v)).1 (chooseN p).2 _ (feas_richer (fun x i => benE_richer p k v x i) (choose_best p).2.2 (p.Budgets.set k v) (by simp) fun i hi => ?_)
 rw [getD_set _ _ _ _ hk]
 split
 ·rename_i h; subst h; exact hv
 ·exact Int.le_refl _
theorem mostN_richer (p:TRoProgramme) (k:Nat) (v:Int) (x:TRoAsset):∀ (P:List Int) (i:Nat) (a:Int),mostN (richer p k v) x P i a = mostN p x P i a:=by
 intro P
 induction P with
 | nil => intro i a; rfl
 | cons n r ih => intro i a; simp only [mostN]; rw [benE_richer,ih]
theorem allN_richer (p:TRoProgramme) (k:Nat) (v:Int) (P:List Int):∀ xs:List TRoAsset,allN (richer p k v) P xs = allN p P xs:=by
 intro xs
 induction xs with
 | nil => rfl
 | cons x r ih => simp only [allN]; rw [mostN_richer,ih]
theorem boundE_richer {p:TRoProgramme} (h0:(progE p).2 = 0) {k:Nat} {v:Int} (hv:0 ≤ v ∧ v ≤ 10000000) (P:List Int):(boundR (richer p k v) P).2 = (boundR p P).2:=by
 have h1:=progE_richer (k:=k) h0 hv
 have hl:(richer p k v).Budgets.length = p.Budgets.length:=by simp [richer]
 unfold boundR
 rw [if_neg (c:=(progE (richer p k v)).2 ≠ 0) (by simp [h1]),if_neg (c:=(progE p).2 ≠ 0) (by simp [h0]),hl]
 by_cases g:P.length ≠ p.Budgets.length
 ·rw [if_pos g,if_pos g]
 ·rw [if_neg g,if_neg g]
  by_cases g2:P.any priceB = true
  ·rw [if_pos g2,if_pos g2]
  ·rw [if_neg g2,if_neg g2]
theorem boundR_err {p:TRoProgramme} {P:List Int} (h:(boundR p P).2 ≠ 0):(boundR p P).1 = 0:=by
 unfold boundR at h ⊢
 by_cases g0:(progE p).2 ≠ 0
 ·rw [if_pos g0]
 rw [if_neg g0] at h ⊢
 by_cases g:P.length ≠ p.Budgets.length
 ·rw [if_pos g]
 rw [if_neg g] at h ⊢
 by_cases g2:P.any priceB = true
 ·rw [if_pos g2]
 ·rw [if_neg g2] at h; exact absurd rfl h
theorem bound_richer {p:TRoProgramme} (h0:(progE p).2 = 0) {k:Nat} {v:Int} (hk:k < p.Budgets.length) (hv:0 ≤ v ∧ v ≤ 10000000) (hle:p.Budgets.getD k 0 ≤ v) (P:List Int):(boundR p P).1 ≤ (boundR (richer p k v) P).1:=by
 have he:=boundE_richer (k:=k) h0 hv P
 by_cases hb:(boundR p P).2 = 0
 ·obtain ⟨h1,h2,h3⟩:=bound_val h0 hb
  obtain ⟨-,-,h4⟩:=bound_val (progE_richer (k:=k) h0 hv) (he.trans hb)
  rw [h3,h4,allN_richer]
  have hs:sumN P (richer p k v).Budgets = sumN P p.Budgets + P.getD k 0 * (v - p.Budgets.getD k 0):=sumN_set P p.Budgets k v hk
  have hP:0 ≤ P.getD k 0:=by
   have hkP:k < P.length:=by omega
   have:P.getD k 0 ∈ P:=by simp only [List.getD,List.getElem?_eq_getElem hkP,Option.getD_some]; exact List.getElem_mem hkP
   exact (h2 _ this).1
  have hm:=Int.mul_nonneg hP (show 0 ≤ v - p.Budgets.getD k 0 by omega)
  rw [hs]
  generalize P.getD k 0 * (v - p.Budgets.getD k 0) = z at hm
  have hA:(richer p k v).Assets = p.Assets:=rfl
  rw [hA]
  generalize sumN P p.Budgets = a
  generalize allN p P p.Assets = b
  omega
 ·rw [boundR_err hb,boundR_err (fun h => hb (he.symm.trans h))]; exact Int.le_refl _
def R10 (p:TRoProgramme) (prices:List Int) (x0 x1:Int) (S:SpecF) (_Fr:FreshF) (_Sq:SeqF) (Q:PostF):Prop :=
 ∃ es0 n1 n2,S 30 [p.av] [] (.tup [AV.slc 3 es0,iN n1,iN n2]) [] ∧ ((n2 != 0) = true → ∃ b6,S 17 [] [] (.bool b6) [] ∧ Q (.bool b6) []) ∧ ((n2 != 0) = false → (((↑(List.map (AV.int IntKind.i64) p.Budgets).length:Int) == (0:Int)) = true → ∃ b8,S 17 [] [] (.bool b8) [] ∧ Q (.bool b8) []) ∧ (((↑(List.map (AV.int IntKind.i64) p.Budgets).length:Int) == (0:Int)) = false → elemsOf (1:Nat) (List.map (AV.int IntKind.i64) p.Budgets) ∧ ((([]:List AV) = [] ∨ (0:Nat) < (List.map (AV.int IntKind.i64) p.Budgets).length) ∧ ((0:Nat) + (List.map (AV.int IntKind.i64) p.Budgets).length + (512:Nat)) * 41 ≤ (1125899906842624:Nat) ∧ elemsOf (1:Nat) [] ∧ ones (List.flatMap AV.cells (List.map (AV.int IntKind.i64) p.Budgets)) = true ∧ ones [] = true) ∧ (↑((0:Nat) + (List.map (AV.int IntKind.i64) p.Budgets).length):Int) ≠ (0:Int) ∧ ((0:Int) ≤ (IntKind.i64.wrap x0).tmod (↑((0:Nat) + (List.map (AV.int IntKind.i64) p.Budgets).length):Int) ∧ (IntKind.i64.wrap x0).tmod (↑((0:Nat) + (List.map (AV.int IntKind.i64) p.Budgets).length):Int) < (↑((0:Nat) + (List.map (AV.int IntKind.i64) p.Budgets).length):Int) ∧ (1:Nat) = (1:Nat)) ∧ ∃ n12,Option.map AV.norm (partA Tryz.prog (3:Nat) ([] ++ List.flatMap AV.cells (List.map (AV.int IntKind.i64) p.Budgets)) ((0:Nat) + ((IntKind.i64.wrap x0).tmod (↑((0:Nat) + (List.map (AV.int IntKind.i64) p.Budgets).length):Int)).toNat * (1:Nat))) = some (iN n12) ∧ ((0:Int) ≤ (IntKind.i64.wrap x0).tmod (↑((0:Nat) + (List.map (AV.int IntKind.i64) p.Budgets).length):Int) ∧ (IntKind.i64.wrap x0).tmod (↑((0:Nat) + (List.map (AV.int IntKind.i64) p.Budgets).length):Int) < (↑((0:Nat) + (List.map (AV.int IntKind.i64) p.Budgets).length):Int) ∧ (1:Nat) = (1:Nat)) ∧ (0:Nat) + ((IntKind.i64.wrap x0).tmod (↑((0:Nat) + (List.map (AV.int IntKind.i64) p.Budgets).length):Int)).toNat * (1:Nat) + (1:Nat) ≤ ([] ++ List.flatMap AV.cells (List.map (AV.int IntKind.i64) p.Budgets)).length ∧ ((0:Nat) + ((0:Nat) + (List.map (AV.int IntKind.i64) p.Budgets).length) * 1 ≤ (setCells ([] ++ List.flatMap AV.cells (List.map (AV.int IntKind.i64) p.Budgets)) ((0:Nat) + ((IntKind.i64.wrap x0).tmod (↑((0:Nat) + (List.map (AV.int IntKind.i64) p.Budgets).length):Int)).toNat * (1:Nat)) [iN (if IntKind.i64.wrap (n12 + IntKind.i64.wrap x1) < 10000000 then IntKind.i64.wrap (n12 + IntKind.i64.wrap x1) else (10000000:Int))]).length ∧ ones (setCells ([] ++ List.flatMap AV.cells (List.map (AV.int IntKind.i64) p.Budgets)) ((0:Nat) + ((IntKind.i64.wrap x0).tmod (↑((0:Nat) + (List.map (AV.int IntKind.i64) p.Budgets).length):Int)).toNat * (1:Nat)) [iN (if IntKind.i64.wrap (n12 + IntKind.i64.wrap x1) < 10000000 then IntKind.i64.wrap (n12 + IntKind.i64.wrap x1) else (10000000:Int))]) = true) ∧ ∃ es17,(es17.length = (0:Nat) + (List.map (AV.int IntKind.i64) p.Budgets).length ∧ List.flatMap AV.cells es17 = List.drop (0:Nat) (setCells ([] ++ List.flatMap AV.cells (List.map (AV.int IntKind.i64) p.Budgets)) ((0:Nat) + ((IntKind.i64.wrap x0).tmod (↑((0:Nat) + (List.map (AV.int IntKind.i64) p.Budgets).length):Int)).toNat * (1:Nat)) [iN (if IntKind.i64.wrap (n12 + IntKind.i64.wrap x1) < 10000000 then IntKind.i64.wrap (n12 + IntKind.i64.wrap x1) else (10000000:Int))]) ∧ elemsA (1:Nat) (isAggT Tryz.prog (3:Nat)) es17) ∧ ∃ es19 n20 n21,S 30 [AV.agg [AV.slc 3 (List.map TRoAsset.av p.Assets),.slc 3 es17,iN p.First,iN p.Days]] [] (.tup [AV.slc 3 es19,iN n20,iN n21]) [] ∧ ((n21 != 0) = true → Q (.bool false) []) ∧ ((n21 != 0) = false → (decide (n20 < n1) = true → Q (.bool false) []) ∧ (decide (n20 < n1) = false → ∃ n27 n28,S 33 [p.av,.slc 3 (List.map (AV.int IntKind.i64) prices)] [] (.tup [iN n27,iN n28]) [] ∧ ∃ n30 n31,S 33 [AV.agg [AV.slc 3 (List.map TRoAsset.av p.Assets),.slc 3 es17,iN p.First,iN p.Days],.slc 3 (List.map (AV.int IntKind.i64) prices)] [] (.tup [iN n30,iN n31]) [] ∧ ((n28 == n31) = true → (decide (n27 ≤ n30) = true → ∃ b37,S 17 [] [] (.bool b37) [] ∧ Q (.bool b37) []) ∧ (decide (n27 ≤ n30) = false → Q (.bool false) [])) ∧ ((n28 == n31) = false → Q (.bool false) [])))))
theorem s10 (p:TRoProgramme) (prices:List Int) (x0:Int) (x1:Int) (v:AV) (O:List (List AV)) (h:R10 p prices x0 x1 Sp Fo So (fun r O' => r = v ∧ O' = O)):Sp 10 [p.av,.slc 3 (List.map (AV.int .i64) prices),.agg [.int .u16 x0,.int .u16 x1]] [] v O :=
 spec_by (w:=⟨[],[],[],[],[]⟩) (k:=0) (keep:=⟨[0,1,2,3,5,6,8,9,10,11,13,14,15,16,30,71],[],[],[(8,2001000010)]⟩) (boxes:=[]) mixed (by exact trivial) Tryz.func10 Tryz.call10 rfl rfl rfl (Nat.le_of_ble_eq_true rfl) (by kernel_rfl) h
theorem c10 (p:TRoProgramme) (hp:p.Ok) (prices:List Int) (x0 x1:Int) (hx0:0 ≤ x0 ∧ x0 < 65536) (hx1:0 ≤ x1 ∧ x1 < 65536):Sp 10 [p.av,.slc 3 (prices.map (AV.int .i64)),.agg [.int .u16 x0,.int .u16 x1]] [] (.bool true) []:=s10 p prices x0 x1 _ _ (by
 have hpi:=progIn_ok hp
 unfold R10
 refine ⟨_,_,_,c30 p hpi,fun _ => ⟨_,awake_ok,rfl,by trivial⟩,fun he => ⟨fun _ => ⟨_,awake_ok,rfl,by trivial⟩,fun hne => ?_⟩⟩
 have h0:(progE p).2 = 0:=by rw [choose_E] at he; simpa using he
 have hv:=prog_ok h0
 have hbl:=hv.bl
 have hc:chooseR p = ((chooseN p).2,(chooseN p).1,0):=by unfold chooseR; rw [if_neg (by simp [h0])]
 rw [hc]
 simp only [List.length_map,Nat.zero_add,List.nil_append] at hne ⊢
 have hL:0 < p.Budgets.length:=by
  have:¬ (p.Budgets.length:Int) = 0:=by simpa using hne
  omega
 have hf:List.flatMap AV.cells (p.Budgets.map (AV.int .i64)) = p.Budgets.map (AV.int .i64):=flat1 ints_cells
 have o1:∀ l:List Int,ones (l.map (AV.int .i64)) = true:=ints_ones
 have w0:IntKind.i64.wrap x0 = x0:=i64 (by omega)
 have w1:IntKind.i64.wrap x1 = x1:=i64 (by omega)
 rw [hf,w0,w1,Int.tmod_eq_emod_of_nonneg hx0.1]
 have hr0:=Int.emod_nonneg x0 (show (p.Budgets.length:Int) ≠ 0 by omega)
 have hr1:=Int.emod_lt_of_pos x0 (show 0 < (p.Budgets.length:Int) by omega)
 obtain ⟨k,hk⟩:=Int.eq_ofNat_of_zero_le hr0
 rw [hk] at hr1 ⊢
 have hkl:k < p.Budgets.length:=by omega
 have hbk:0 ≤ p.Budgets.getD k 0 ∧ p.Budgets.getD k 0 ≤ 10000000:=by
  have hm:p.Budgets.getD k 0 ∈ p.Budgets:=by simp only [List.getD,List.getElem?_eq_getElem hkl,Option.getD_some]; exact List.getElem_mem hkl
  exact hv.bud _ hm
 have hpart:=part_ints (zs:=p.Budgets) hkl
 rw [Nat.zero_add] at hpart
 let v:Int:=if p.Budgets.getD k 0 + x1 < 10000000 then p.Budgets.getD k 0 + x1 else 10000000
 have hvv:(0 ≤ v ∧ v ≤ 10000000) ∧ p.Budgets.getD k 0 ≤ v:=by simp only [v]; split <;> omega
 refine ⟨one_of ints_cells,⟨.inl (by trivial),by omega,fun v hv => (nomatch hv),o1 _,by trivial⟩,by omega,⟨by omega,by omega,by trivial⟩,_,hpart,⟨by omega,by omega,by trivial⟩,by rw [Int.toNat_natCast,List.length_map]; omega,?_⟩
 have hset:setCells (p.Budgets.map (AV.int .i64)) (((k:Nat):Int).toNat * 1) [.int .i64 (if IntKind.i64.wrap (p.Budgets.getD k 0 + x1) < 10000000 then IntKind.i64.wrap (p.Budgets.getD k 0 + x1) else 10000000)] = (p.Budgets.set k v).map (AV.int .i64):=by
  rw [i64 (n:=p.Budgets.getD k 0 + x1) (by omega),Int.toNat_natCast,Nat.mul_one,setC_ints hkl]
 rw [hset]
 have hq:=progE_richer (k:=k) h0 hvv.1
 have hpq:ProgIn (richer p k v):=hpi
 have hcq:chooseR (richer p k v) = ((chooseN (richer p k v)).2,(chooseN (richer p k v)).1,0):=by unfold chooseR; rw [if_neg (by simp [hq])]
 have e1:=c30 (richer p k v) hpq
 rw [hcq] at e1
 have hle:=choose_richer hkl hvv.2
 refine ⟨⟨by rw [List.length_map,List.length_set]; omega,o1 _⟩,(p.Budgets.set k v).map (AV.int .i64),⟨by rw [List.length_map,List.length_set],by rw [List.drop_zero]; exact flat1 ints_cells,by rw [agg3]; exact elemsF ints_cells⟩,_,_,_,e1,fun h => absurd h (by simp),fun _ => ⟨fun h => ?_,fun _ => ⟨_,_,c33 p hpi prices,_,_,c33 (richer p k v) hpq prices,fun _ => ⟨fun _ => ⟨_,awake_ok,rfl,by trivial⟩,fun h => ?_⟩,fun h => ?_⟩⟩⟩
 ·have h:(chooseN (richer p k v)).1 < (chooseN p).1:=of_decide_eq_true h
  omega
 ·have:=bound_richer h0 hkl hvv.1 hvv.2 prices
  exact absurd this (of_decide_eq_false h)
 ·have:=boundE_richer (k:=k) h0 hvv.1 prices
  rw [this] at h
  simp at h)
end Go.Proofs.YtdeeekgohhkdbaaGreatDoor

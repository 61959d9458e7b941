/- Contracts: Choose, the program's and the document's. -/
import Derived.Test.YtdeeekgohhkdbaaGreatDoorMc
import Derived.Test.YtdeeekgohhkdbaaGreatDoorMb
import Derived.Test.YtdeeekgohhkdbaaGreatDoorPd
namespace Go.Proofs.YtdeeekgohhkdbaaGreatDoor
open Go.RowKit
def chooseR (p:TRoProgramme):List Int × Int × Int:=if (progE p).2 ≠ 0 then ([],0,(progE p).2) else ((chooseN p).2,(chooseN p).1,0)
theorem rep_ints (n:Nat):(List.replicate n [AV.int .i64 0]).flatten = (List.replicate n (0:Int)).map (AV.int .i64):=by
 induction n with
 | zero => rfl
 | succ n ih => rw [List.replicate_succ,List.replicate_succ,List.flatten_cons,ih]; rfl
def R30 (p:TRoProgramme) (S:SpecF) (Fr:FreshF) (_Sq:SeqF) (Q:PostF):Prop :=
 ∃ n0 n1,S 23 [p.av] [] (.tup [iN n0,iN n1]) [] ∧ ((n1 != 0) = true → Q (.tup [AV.slc 3 [],iN 0,iN n1]) []) ∧ ((n1 != 0) = false → ∃ es5,Fr (49:Nat) [AV.slc 3 (List.map (AV.int IntKind.i64) p.Budgets)] (1:Nat) es5 ∧ ((0:Int) ≤ (0:Int) ∧ (0:Int) ≤ (↑(List.map TRoAsset.av p.Assets).length:Int) ∧ ((↑(List.map TRoAsset.av p.Assets).length:Int) + (1:Int)) * 9 ≤ (281474976710656:Int)) ∧ (List.replicate (↑(List.map TRoAsset.av p.Assets).length:Int).toNat [iN 0]).flatten.all flatV = true ∧ (List.flatMap AV.cells es5).all flatV = true ∧ ∃ zs10 n11 es12 zs13,S 85 [iN 0,.ref 0 0,.ref 2 0,.ref 3 0,.ref 4 0,.ref 5 0,.ref 6 0] [[AV.aslc (1:Nat) (0:Nat) (0:Nat) (1:Nat) (isAggT Tryz.prog (3:Nat))],(List.replicate (↑(List.map TRoAsset.av p.Assets).length:Int).toNat [iN 0]).flatten,p.cs,[iN (-1:Int)],[AV.slc 3 []],[AV.fn (85:Nat) [] [AV.ref 0 0,.ref 2 0,.ref 3 0,.ref 4 0,.ref 5 0,.ref 6 0]],[AV.aslc (7:Nat) (0:Nat) es5.length (1:Nat) (isAggT Tryz.prog (3:Nat))],List.flatMap AV.cells es5] (.tup []) [[AV.aslc (1:Nat) (0:Nat) (0:Nat) (1:Nat) (isAggT Tryz.prog (3:Nat))],List.map (AV.int IntKind.i64) zs10,p.cs,[iN n11],[AV.slc 3 es12],[AV.fn (85:Nat) [] [AV.ref 0 0,.ref 2 0,.ref 3 0,.ref 4 0,.ref 5 0,.ref 6 0]],[AV.aslc (7:Nat) (0:Nat) es5.length (1:Nat) (isAggT Tryz.prog (3:Nat))],List.map (AV.int IntKind.i64) zs13] ∧ (List.map (AV.int IntKind.i64) zs10).all flatV = true ∧ (List.map (AV.int IntKind.i64) zs13).all flatV = true ∧ Q (.tup [AV.slc 3 es12,iN n11,iN 0]) [])
theorem s30 (p:TRoProgramme) (v:AV) (O:List (List AV)) (h:R30 p Sp Fo So (fun r O' => r = v ∧ O' = O)):Sp 30 [p.av] [] v O :=
 spec_by (w:=⟨[49],[],[993000085,1000085,3000085,6000085,7000085],[],[22]⟩) (k:=0) (keep:=⟨[0,1,2,3,4,5,6,7,14],[],[],[]⟩) (boxes:=[]) mixed (by exact trivial) Tryz.func30 Tryz.call30 rfl rfl rfl (Nat.le_of_ble_eq_true rfl) (by kernel_rfl) h
theorem c30 (p:TRoProgramme) (hp:ProgIn p):Sp 30 [p.av] [] (.tup [.slc 3 (intsT (chooseR p).1),.int .i64 (chooseR p).2.1,.int .i64 (chooseR p).2.2]) []:=s30 p _ _ (by
 unfold R30 chooseR
 refine ⟨_,_,c23 p hp,fun h => ⟨by rw [if_pos (by simpa using h)]; rfl,by trivial⟩,fun h => ?_⟩
 rw [if_neg (by simpa using h)]
 have hv:=prog_ok (p:=p) (by simpa using h)
 have hal:=hv.al
 have hbl:=hv.bl
 have hb:=left_budgets hv
 have in0:NextIn p [] p.Budgets (List.replicate p.Assets.length 0) 0:=⟨List.length_replicate,rfl,rfl,fun i hi => by
  have hm:p.Budgets.getD i 0 ∈ p.Budgets:=by simp only [List.getD,List.getElem?_eq_getElem hi,Option.getD_some]; exact List.getElem_mem hi
  exact hv.bud _ hm,by simp⟩
 have e0:=next_ok hv p.Assets [] [] p.Budgets (List.replicate p.Assets.length 0) 0 (-1,[]) rfl rfl in0
 have hf:List.flatMap AV.cells (p.Budgets.map (AV.int .i64)) = p.Budgets.map (AV.int .i64):=flat1 ints_cells
 refine ⟨p.Budgets.map (AV.int .i64),clone_new p.Budgets (by omega),⟨by omega,by omega,by rw [List.length_map]; omega⟩,?_⟩
 rw [hf,agg3,List.length_map,List.length_map,Int.toNat_natCast,rep_ints]
 exact ⟨flatV_ints _,flatV_ints _,_,_,_,_,e0,flatV_ints _,flatV_ints _,rfl,by trivial⟩)
theorem spentI_take:∀ (l:List TRoAsset) (per:List Int) (k:Nat) (i:Int),per.length ≤ l.length → k < per.length → spentI l (per.take (k + 1)) i = spentI l (per.take k) i + if per.getD k 0 = i then (l.getD k TRoAsset.zero).Cost else 0:=by
 intro l
 induction l with
 | nil => intro per k i h1 h2; simp at h1; subst h1; simp at h2
 | cons x r ih =>
  intro per k i h1 h2
  cases per with
  | nil => simp at h2
  | cons q per =>
   cases k with
   | zero => simp [spentI,spentI_nil]
   | succ k =>
    simp only [List.take_succ_cons,spentI,List.getD_cons_succ]
    rw [ih per k i (by simpa using h1) (by simpa using h2)]; omega
theorem spentI_in:∀ (l:List TRoAsset) (per:List Int) (i:Int),(∀ x ∈ l,0 ≤ x.Cost ∧ x.Cost ≤ 1000000) → 0 ≤ spentI l per i ∧ spentI l per i ≤ l.length * 1000000:=by
 intro l
 induction l with
 | nil => intro per i _; cases per <;> simp [spentI]
 | cons x r ih =>
  intro per i h
  cases per with
  | nil => exact ⟨by simp [spentI],by simp only [spentI,List.length_cons]; push_cast; omega⟩
  | cons q per =>
   have h1:=ih per i (fun y hy => h y (by simp [hy]))
   have h2:=h x (by simp)
   simp only [spentI,List.length_cons]
   push_cast
   split <;> omega
def R119 (p:TRoProgramme) (periods:List Int) (_S:SpecF) (_Fr:FreshF) (_Sq:SeqF) (Q:PostF):Prop :=
 ∃ (I0:Nat → List AV → Prop),(∃ m2,I0 m2 [iN 0]) ∧ ∀ (m2:Nat) (n3:Int),I0 m2 [iN n3] → (decide (n3 < (↑(List.map (AV.int IntKind.i64) p.Budgets).length:Int)) = true → ∃ (I7:Nat → List AV → Prop),(∃ m9,I7 m9 TEncl.zero.cs) ∧ ∀ (m9:Nat) (n10 n11:Int),I7 m9 [iN n10,iN n11] → (decide (n11 < (↑(List.map (AV.int IntKind.i64) periods).length:Int)) = true → ∃ n15,((0:Int) ≤ n11 ∧ (1:Nat) = (1:Nat) ∧ (List.map (AV.int IntKind.i64) periods)[n11.toNat]? = some (iN n15)) ∧ ((n15 == n3) = true → ∃ s19 n20 n21 n22 n23,((0:Int) ≤ n11 ∧ (5:Nat) = (5:Nat) ∧ (List.map TRoAsset.av p.Assets)[n11.toNat]? = some (.agg [AV.str s19,iN n20,iN n21,iN n22,iN n23])) ∧ p.cs = p.cs ∧ ∃ k26,k26 < m9 ∧ I7 k26 [iN (IntKind.i64.wrap (n10 + n20)),iN (IntKind.i64.wrap (n11 + 1))]) ∧ ((n15 == n3) = false → p.cs = p.cs ∧ ∃ k20,k20 < m9 ∧ I7 k20 [iN n10,iN (IntKind.i64.wrap (n11 + 1))])) ∧ (decide (n11 < (↑(List.map (AV.int IntKind.i64) periods).length:Int)) = false → ∃ n15,((0:Int) ≤ n3 ∧ (1:Nat) = (1:Nat) ∧ (List.map (AV.int IntKind.i64) p.Budgets)[n3.toNat]? = some (iN n15)) ∧ (decide (n10 > n15) = true → Q (.bool false) []) ∧ (decide (n10 > n15) = false → p.cs = p.cs ∧ ∃ k20,k20 < m2 ∧ I0 k20 [iN (IntKind.i64.wrap (n3 + 1))]))) ∧ (decide (n3 < (↑(List.map (AV.int IntKind.i64) p.Budgets).length:Int)) = false → Q (.bool true) [])
theorem s119 (p:TRoProgramme) (periods:List Int) (v:AV) (O:List (List AV)) (h:R119 p periods Sp Fo So (fun r O' => r = v ∧ O' = O)):Sp 119 [p.av,.slc 3 (List.map (AV.int .i64) periods)] [] v O :=
 spec_by (w:=⟨[],[],[],[],[]⟩) (k:=0) (keep:=⟨[0,1,2,4,5,6,7,12,18,26,41],[⟨2,[(5,iN 0)],[],[],[],[],[]⟩,⟨6,[(6,iN 0),(7,iN 0)],[],[],[],[],[]⟩],[],[]⟩) (boxes:=[]) mixed (by exact trivial) Tryz.func119 Tryz.call119 rfl rfl rfl (Nat.le_of_ble_eq_true rfl) (by kernel_rfl) h
theorem c119 {p:TRoProgramme} (hv:ProgV p) (per:List Int) (hl:per.length ≤ p.Assets.length):Sp 119 [p.av,.slc 3 (per.map (AV.int .i64))] [] (.bool (keepsB p per)) []:=s119 p per _ _ (by
 unfold R119
 have hal:=hv.al
 have hbl:=hv.bl
 simp only [List.length_map]
 refine ⟨fun m vs => ∃ i:Nat,vs = [.int .i64 i] ∧ i ≤ p.Budgets.length ∧ m = p.Budgets.length - i ∧ ∀ j,j < i → spentI p.Assets per j ≤ p.Budgets.getD j 0,⟨_,0,rfl,by omega,rfl,fun j hj => by omega⟩,?_⟩
 rintro m n3 ⟨i,hvs,hi,rfl,hk⟩
 cases hvs
 refine ⟨fun h => ?_,fun h => ?_⟩
 ·have h:i < p.Budgets.length:=by have:=of_decide_eq_true h; omega
  refine ⟨fun m vs => ∃ k:Nat,vs = [.int .i64 (spentI p.Assets (per.take k) i),.int .i64 k] ∧ k ≤ per.length ∧ m = per.length - k,⟨_,0,by rw [List.take_zero,spentI_nil]; rfl,by omega,rfl⟩,?_⟩
  rintro m n10 n11 ⟨k,hvs,hkl,rfl⟩
  cases hvs
  have hb:=spentI_in p.Assets (per.take k) i (fun x hx => (hv.ass x hx).1)
  refine ⟨fun h2 => ?_,fun h2 => ?_⟩
  ·have h2:k < per.length:=by have:=of_decide_eq_true h2; omega
   have ht:=spentI_take p.Assets per k i hl h2
   refine ⟨_,⟨by omega,by trivial,ints_get h2⟩,fun h3 => ?_,fun h3 => ?_⟩
   ·have hkA:k < p.Assets.length:=by omega
    have h3:per[k] = (i:Int):=by simpa using h3
    have hx:(p.Assets.map TRoAsset.av)[((k:Nat):Int).toNat]? = some (p.Assets[k]).av:=by rw [Int.toNat_natCast,List.getElem?_map,List.getElem?_eq_getElem hkA]; rfl
    have hc:=(hv.ass _ (List.getElem_mem hkA)).1
    have e1:per.getD k 0 = (i:Int):=by simp only [List.getD,List.getElem?_eq_getElem h2,Option.getD_some]; exact h3
    have e2:p.Assets.getD k TRoAsset.zero = p.Assets[k]:=by simp only [List.getD,List.getElem?_eq_getElem hkA,Option.getD_some]
    rw [if_pos e1,e2] at ht
    have hb2:=spentI_in p.Assets (per.take (k + 1)) i (fun x hx => (hv.ass x hx).1)
    refine ⟨_,_,_,_,_,⟨by omega,by trivial,hx⟩,by trivial,_,(by omega:per.length - (k + 1) < per.length - k),k + 1,?_,by omega,rfl⟩
    rw [wrapN (by omega),ht,i64 (by omega)]
   ·have h3:¬ per[k] = (i:Int):=by simpa using h3
    have e1:¬ per.getD k 0 = (i:Int):=by simp only [List.getD,List.getElem?_eq_getElem h2,Option.getD_some]; exact h3
    rw [if_neg e1,Int.add_zero] at ht
    refine ⟨by trivial,_,(by omega:per.length - (k + 1) < per.length - k),k + 1,?_,by omega,rfl⟩
    rw [wrapN (by omega),ht]
  ·have h2:k = per.length:=by have:=of_decide_eq_false h2; omega
   subst h2
   rw [List.take_length]
   have e3:p.Budgets.getD i 0 = p.Budgets[i]:=by simp only [List.getD,List.getElem?_eq_getElem h,Option.getD_some]
   refine ⟨_,⟨by omega,by trivial,ints_get h⟩,fun h3 => ⟨?_,by trivial⟩,fun h3 => ⟨by trivial,_,(by omega:p.Budgets.length - (i + 1) < p.Budgets.length - i),i + 1,by rw [wrapN (by omega)],by omega,rfl,fun j hj => ?_⟩⟩
   ·have h3:=of_decide_eq_true h3
    have:keepsB p per = false:=by
     rw [← Bool.not_eq_true,keepsB_iff]
     intro hh
     have:=hh i h
     rw [e3] at this; omega
    rw [this]
   ·have h3:=of_decide_eq_false h3
    rcases Nat.lt_or_eq_of_le (Nat.le_of_lt_succ hj) with hj | rfl
    ·exact hk j hj
    ·rw [e3]; omega
 ·have h:i = p.Budgets.length:=by have:=of_decide_eq_false h; omega
  subst h
  have:keepsB p per = true:=keepsB_iff.2 hk
  rw [this]
  exact ⟨by trivial,by trivial⟩)
def R86 (p:TRoProgramme) (periods:List Int) (sum best:Int) (found:List Int) (S:SpecF) (_Fr:FreshF) (_Sq:SeqF) (Q:PostF):Prop :=
 ∃ b0,S 119 [p.av,.slc 3 (List.map (AV.int IntKind.i64) periods)] [] (.bool b0) [] ∧ ((!b0) = true → Q (.tup []) [[iN best],[AV.slc 3 (List.map (AV.int IntKind.i64) found)]]) ∧ ((!b0) = false → (((↑(List.map (AV.int IntKind.i64) periods).length:Int) == (↑(List.map TRoAsset.av p.Assets).length:Int)) = true → (decide (sum > best) = true → Q (.tup []) [[iN sum],[AV.slc 3 (List.map (AV.int IntKind.i64) periods)]]) ∧ (decide (sum > best) = false → Q (.tup []) [[iN best],[AV.slc 3 (List.map (AV.int IntKind.i64) found)]])) ∧ (((↑(List.map (AV.int IntKind.i64) periods).length:Int) == (↑(List.map TRoAsset.av p.Assets).length:Int)) = false → ∃ (I6:Nat → List AV → Prop),(∃ m8,I6 m8 [iN (-1:Int),.agg [iN best],.agg [AV.slc 3 (List.map (AV.int IntKind.i64) found)]]) ∧ ∀ (m8:Nat) (n9 n10:Int) (es11:List AV),I6 m8 [iN n9,.agg [iN n10],.agg [AV.slc 3 es11]] → (decide (n9 < (↑(List.map (AV.int IntKind.i64) p.Budgets).length:Int)) = true → ∃ (J15:List AV → Prop),((decide (n9 ≥ 0) = true → ∃ n19,S 81 [p.av,iN (↑(List.map (AV.int IntKind.i64) periods).length:Int),iN n9] [] (iN n19) [] ∧ Same [iN n10] ∧ Same [AV.slc 3 es11] ∧ p.cs = p.cs ∧ J15 [iN n19]) ∧ (decide (n9 ≥ 0) = false → Same [iN n10] ∧ Same [AV.slc 3 es11] ∧ p.cs = p.cs ∧ J15 [iN 0])) ∧ ∀ (n17:Int),J15 [iN n17] → elemsOf (1:Nat) (List.map (AV.int IntKind.i64) periods) ∧ ((([]:List AV) = [] ∨ (0:Nat) < (List.map (AV.int IntKind.i64) periods).length) ∧ ((0:Nat) + (List.map (AV.int IntKind.i64) periods).length + (512:Nat)) * 41 ≤ (1125899906842624:Nat) ∧ elemsOf (1:Nat) [] ∧ ones (List.flatMap AV.cells (List.map (AV.int IntKind.i64) periods)) = true ∧ ones [] = true) ∧ elemsOf (1:Nat) [iN n9] ∧ (([] ++ List.flatMap AV.cells (List.map (AV.int IntKind.i64) periods)).length = ((0:Nat) + (List.map (AV.int IntKind.i64) periods).length) * 1 ∧ ((0:Nat) + (List.map (AV.int IntKind.i64) periods).length + (1:Nat) + (512:Nat)) * 41 ≤ (1125899906842624:Nat) ∧ ones [iN n9] = true ∧ ones ([] ++ List.flatMap AV.cells (List.map (AV.int IntKind.i64) periods)) = true) ∧ ((0:Nat) + ((0:Nat) + (List.map (AV.int IntKind.i64) periods).length + (1:Nat)) * 1 ≤ ([] ++ List.flatMap AV.cells (List.map (AV.int IntKind.i64) periods) ++ [iN n9]).length ∧ ones ([] ++ List.flatMap AV.cells (List.map (AV.int IntKind.i64) periods) ++ [iN n9]) = true) ∧ ∃ n24 es25,S 86 [p.av,.slc 3 (chunks (1:Nat) (isAggT Tryz.prog (3:Nat)) ((0:Nat) + (List.map (AV.int IntKind.i64) periods).length + (1:Nat)) (List.drop (0:Nat) ([] ++ List.flatMap AV.cells (List.map (AV.int IntKind.i64) periods) ++ [iN n9]))),iN (IntKind.i64.wrap (sum + n17)),.ref 0 0,.ref 1 0] [[iN n10],[AV.slc 3 es11]] (.tup []) [[iN n24],[AV.slc 3 es25]] ∧ p.cs = p.cs ∧ ∃ k28,k28 < m8 ∧ I6 k28 [iN (IntKind.i64.wrap (n9 + 1)),.agg [iN n24],.agg [AV.slc 3 es25]]) ∧ (decide (n9 < (↑(List.map (AV.int IntKind.i64) p.Budgets).length:Int)) = false → Q (.tup []) [[iN n10],[AV.slc 3 es11]])))
theorem s86 (p:TRoProgramme) (periods:List Int) (sum:Int) (best:Int) (found:List Int) (v:AV) (O:List (List AV)) (h:R86 p periods sum best found Sp Fo So (fun r O' => r = v ∧ O' = O)):Sp 86 [p.av,.slc 3 (List.map (AV.int .i64) periods),iN sum,.ref 0 0,.ref 1 0] [[iN best],[.slc 3 (List.map (AV.int .i64) found)]] v O :=
 spec_by (w:=⟨[],[],[991000086],[],[]⟩) (k:=0) (keep:=⟨[0,1,2,3,4,5,10,11,15,21,26,37,41],[⟨6,[(10,iN 0)],[],[(1000000,.agg [iN 0]),(1000001,.agg [.slc 3 []])],[],[],[]⟩],[⟨11,[(11,iN 0)],[],[],[],[],[]⟩],[]⟩) (boxes:=[⟨3,false,[iN best]⟩,⟨41,false,[.slc 3 (List.map (AV.int .i64) found)]⟩]) mixed (by exact trivial) Tryz.func86 Tryz.call86 rfl rfl rfl (Nat.le_of_ble_eq_true rfl) (by kernel_rfl) h
theorem c86 {p:TRoProgramme} (hv:ProgV p):∀ (xs pre:List TRoAsset) (per:List Int) (sum:Int) (st:ChK),p.Assets = pre ++ xs → pre.length = per.length → 0 ≤ sum → sum ≤ per.length * 5760000000 →
  Sp 86 [p.av,.slc 3 (per.map (AV.int .i64)),.int .i64 sum,.ref 0 0,.ref 1 0] [[.int .i64 st.1],[.slc 3 (st.2.map (AV.int .i64))]] (.tup []) [[.int .i64 (rfN p xs per sum st).1],[.slc 3 ((rfN p xs per sum st).2.map (AV.int .i64))]]:=by
 have hal:=hv.al
 have hbl:=hv.bl
 intro xs
 induction xs with
 | nil =>
  intro pre per sum st hp hl h0 h1
  have hk:per.length = p.Assets.length:=by rw [hp,List.append_nil,hl]
  refine s86 p per sum st.1 st.2 _ _ ?_
  unfold R86 rfN
  refine ⟨_,c119 hv per (by omega),fun h => ?_,fun h => ⟨fun _ => ⟨fun hs => ?_,fun hs => ?_⟩,fun hne => ?_⟩⟩
  ·rw [if_neg (by simpa using h)]; exact ⟨rfl,rfl⟩
  ·have h:keepsB p per = true:=by simpa using h
   rw [if_pos h,if_pos (of_decide_eq_true hs)]; exact ⟨rfl,rfl⟩
  ·have h:keepsB p per = true:=by simpa using h
   rw [if_pos h,if_neg (of_decide_eq_false hs)]; exact ⟨rfl,rfl⟩
  ·simp only [List.length_map,hk] at hne
   simp at hne
 | cons x r ih =>
  intro pre per sum st hp hl h0 h1
  have hkl:per.length < p.Assets.length:=by rw [hp,List.length_append,hl,List.length_cons]; omega
  have hx:x ∈ p.Assets:=by rw [hp]; simp
  have hp':p.Assets = (pre ++ [x]) ++ r:=by rw [hp]; simp
  have hl':∀ q:Int,(pre ++ [x]).length = (per ++ [q]).length:=fun q => by simp [hl]
  have hlen:∀ q:Int,(per ++ [q]).length = per.length + 1:=fun q => by simp
  have hat:assetAt p (per.length:Int) = x:=by
   unfold assetAt
   rw [Int.toNat_natCast,hp,← hl,List.getD_eq_getElem?_getD,List.getElem?_append_right (Nat.le_refl _),Nat.sub_self]; rfl
  refine s86 p per sum st.1 st.2 _ _ ?_
  unfold R86 rfN
  refine ⟨_,c119 hv per (by omega),fun h => ?_,fun h => ⟨fun he => ?_,fun _ => ?_⟩⟩
  ·rw [if_neg (by simpa using h)]; exact ⟨rfl,rfl⟩
  ·have he:(((per.map (AV.int .i64)).length:Nat):Int) = ((p.Assets.map TRoAsset.av).length:Nat):=by simpa using he
   rw [List.length_map,List.length_map] at he
   omega
  have h:keepsB p per = true:=by simpa using h
  rw [if_pos h]
  refine ⟨fun m vs => ∃ (i:Nat) (st':ChK),vs = [.int .i64 ((i:Int) - 1),.agg [.int .i64 st'.1],.agg [.slc 3 (st'.2.map (AV.int .i64))]] ∧ i ≤ p.Budgets.length + 1 ∧ m = p.Budgets.length + 1 - i ∧
    rfL (fun i => rfN p r (per ++ [i]) (sum + if 0 ≤ i then benE p x i else 0)) (p.Budgets.length + 1 - i) ((i:Int) - 1) st' = rfL (fun i => rfN p r (per ++ [i]) (sum + if 0 ≤ i then benE p x i else 0)) (p.Budgets.length + 1) (-1) st,⟨_,0,st,rfl,by omega,rfl,rfl⟩,?_⟩
  rintro m n9 n10 es11 ⟨i,st',hvs,hi,rfl,hfin⟩
  cases hvs
  have hf:List.flatMap AV.cells (per.map (AV.int .i64)) = per.map (AV.int .i64):=flat1 ints_cells
  have o1:∀ l:List Int,ones (l.map (AV.int .i64)) = true:=ints_ones
  simp only [List.length_map]
  refine ⟨fun hlt => ?_,fun hge => ?_⟩
  ·have hlt:i < p.Budgets.length + 1:=by have:=of_decide_eq_true hlt; omega
   refine ⟨fun vs => vs = [.int .i64 (if (0:Int) ≤ (i:Int) - 1 then benE p x ((i:Int) - 1) else 0)],⟨fun hp0 => ?_,fun hp0 => ?_⟩,?_⟩
   ·have hp0:(0:Int) ≤ (i:Int) - 1:=of_decide_eq_true hp0
    have hb:=c81 p hv (per.length:Int) ((i:Int) - 1) (by omega) (by omega) hp0 (by omega)
    rw [hat] at hb
    exact ⟨_,hb,by trivial,by trivial,by trivial,by rw [if_pos hp0]⟩
   ·have hp0:¬ (0:Int) ≤ (i:Int) - 1:=of_decide_eq_false hp0
    exact ⟨by trivial,by trivial,by trivial,by rw [if_neg hp0]⟩
   intro n17 hn
   have hn:n17 = if (0:Int) ≤ (i:Int) - 1 then benE p x ((i:Int) - 1) else 0:=by simpa using hn
   have hbn:0 ≤ n17 ∧ n17 ≤ 5760000000:=by
    rw [hn]
    split
    ·rename_i h3
     have:=ben_in hv hx (i:=i - 1) (by omega)
     rw [show (((i - 1:Nat):Nat):Int) = (i:Int) - 1 by omega] at this
     exact this
    ·omega
   have w2:IntKind.i64.wrap (sum + n17) = sum + n17:=i64 (by omega)
   have e1:=ih (pre ++ [x]) (per ++ [(i:Int) - 1]) (sum + n17) st' hp' (hl' _) (by omega) (by rw [hlen]; push_cast; omega)
   have hc:chunks 1 false (0 + per.length + 1) (List.drop 0 ([] ++ per.map (AV.int .i64) ++ [.int .i64 ((i:Int) - 1)])) = (per ++ [(i:Int) - 1]).map (AV.int .i64):=by
    have e:[] ++ per.map (AV.int .i64) ++ [.int .i64 ((i:Int) - 1)] = intsT (per ++ [(i:Int) - 1]):=by unfold intsT; simp
    have:=chunks_of (elemsF (ints_cells (l:=per ++ [(i:Int) - 1])))
    rw [flat1 ints_cells] at this
    have el:(intsT (per ++ [(i:Int) - 1])).length = 0 + per.length + 1:=by unfold intsT; simp
    rw [el] at this
    rw [List.drop_zero,e,this]; rfl
   rw [hf,agg3,hc,w2]
   have hones:ones ([] ++ per.map (AV.int .i64)) = true:=by rw [List.nil_append]; exact o1 per
   have hstep:p.Budgets.length + 1 - i = (p.Budgets.length + 1 - (i + 1)) + 1:=by omega
   rw [hstep] at hfin
   simp only [rfL] at hfin
   rw [← hn] at hfin
   refine ⟨one_of ints_cells,⟨.inl (by trivial),by omega,fun v hv => (nomatch hv),o1 per,by trivial⟩,fun v hv => (by rw [List.mem_singleton.1 hv]; rfl),⟨by rw [List.nil_append,List.length_map]; omega,by omega,by trivial,hones⟩,⟨?_,?_⟩,_,_,e1,by trivial,_,(by omega:p.Budgets.length + 1 - (i + 1) < p.Budgets.length + 1 - i),i + 1,rfN p r (per ++ [(i:Int) - 1]) (sum + n17) st',?_,by omega,rfl,?_⟩
   ·simp
   ·have e:[] ++ per.map (AV.int .i64) ++ [.int .i64 ((i:Int) - 1)] = intsT (per ++ [(i:Int) - 1]):=by unfold intsT; simp
    rw [e]; exact ints_ones _
   ·have e5:((i:Int) - 1) + 1 = (((i + 1:Nat):Int)) - 1:=by omega
    rw [e5,i64 (by omega)]
   ·rw [show (((i + 1:Nat):Int)) - 1 = ((i:Int) - 1) + 1 by omega]
    exact hfin
  ·have hge:i = p.Budgets.length + 1:=by have:=of_decide_eq_false hge; omega
   subst hge
   rw [Nat.sub_self] at hfin
   simp only [rfL] at hfin
   rw [hfin]
   exact ⟨by trivial,by trivial⟩
def R31 (p:TRoProgramme) (S:SpecF) (_Fr:FreshF) (_Sq:SeqF) (Q:PostF):Prop :=
 ∃ n0 n1,S 24 [p.av] [] (.tup [iN n0,iN n1]) [] ∧ ((n1 != 0) = true → Q (.tup [AV.slc 3 [],iN 0,iN n1]) []) ∧ ((n1 != 0) = false → ∃ n5 es6,S 86 [p.av,.slc 3 [],iN 0,.ref 0 0,.ref 1 0] [[iN (-1:Int)],[AV.slc 3 []]] (.tup []) [[iN n5],[AV.slc 3 es6]] ∧ Q (.tup [AV.slc 3 es6,iN n5,iN 0]) [])
theorem s31 (p:TRoProgramme) (v:AV) (O:List (List AV)) (h:R31 p Sp Fo So (fun r O' => r = v ∧ O' = O)):Sp 31 [p.av] [] v O :=
 spec_by (w:=⟨[],[],[],[],[]⟩) (k:=0) (keep:=⟨[0,1,2,3,4,6,7,8,15],[],[],[]⟩) (boxes:=[]) mixed (by exact trivial) Tryz.func31 Tryz.call31 rfl rfl rfl (Nat.le_of_ble_eq_true rfl) (by kernel_rfl) h
theorem c31 (p:TRoProgramme) (hp:ProgIn p):Sp 31 [p.av] [] (.tup [.slc 3 (intsT (chooseR p).1),.int .i64 (chooseR p).2.1,.int .i64 (chooseR p).2.2]) []:=s31 p _ _ (by
 unfold R31 chooseR
 refine ⟨_,_,c24 p hp,fun h => ⟨by rw [if_pos (by simpa using h)]; rfl,by trivial⟩,fun h => ?_⟩
 rw [if_neg (by simpa using h)]
 have hv:=prog_ok (p:=p) (by simpa using h)
 have e0:=c86 hv p.Assets [] [] 0 (-1,[]) rfl rfl (by omega) (by simp)
 rw [← ch_rf p p.Assets [] [] p.Budgets 0 (-1,[]) rfl rfl (left_budgets hv)] at e0
 exact ⟨_,_,e0,rfl,by trivial⟩)
end Go.Proofs.YtdeeekgohhkdbaaGreatDoor

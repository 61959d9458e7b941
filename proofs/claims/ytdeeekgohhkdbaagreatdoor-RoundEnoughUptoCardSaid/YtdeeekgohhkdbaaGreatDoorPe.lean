/- Contracts: what is asked of needs and sets; one list into another, number by number. -/
import Derived.Test.YtdeeekgohhkdbaaGreatDoorSl
namespace Go.Proofs.YtdeeekgohhkdbaaGreatDoor
open Go.RowKit
def noneC (needs:List (List Int)) (n:Int):Bool:=outB n 0 (IntKind.i64.wrap ((needs.length:Int) - 1))
def R89 (n:Int) (v0:List (List Int)) (S:SpecF) (_Fr:FreshF) (_Sq:SeqF) (Q:PostF):Prop :=
 ∃ b0,S 53 [iN n,iN 0,iN (IntKind.i64.wrap ((↑(List.map (fun x => AV.slc 3 (List.map (AV.int IntKind.i64) x)) v0).length:Int) - (1:Int)))] [] (.bool b0) [] ∧ Q (.bool b0) [[AV.slc 3 (List.map (fun x => AV.slc 3 (List.map (AV.int IntKind.i64) x)) v0)]]
theorem s89 (n:Int) (v0:List (List Int)) (v:AV) (O:List (List AV)) (h:R89 n v0 Sp Fo So (fun r O' => r = v ∧ O' = O)):Sp 89 [iN n,.ref 0 0] [[.slc 3 (List.map (fun x => .slc 3 (List.map (AV.int .i64) x)) v0)]] v O :=
 spec_by (w:=⟨[],[],[],[],[]⟩) (k:=0) (keep:=⟨[0,1,3],[],[],[]⟩) (boxes:=[⟨32,false,[.slc 3 (List.map (fun x => .slc 3 (List.map (AV.int .i64) x)) v0)]⟩]) mixed (by exact trivial) Tryz.func89 Tryz.call89 rfl rfl rfl (Nat.le_of_ble_eq_true rfl) (by kernel_rfl) h
theorem c89 (n:Int) (v:List (List Int)):Sp 89 [.int .i64 n,.ref 0 0] [[.slc 3 (planA v)]] (.bool (noneC v n)) [[.slc 3 (planA v)]]:=s89 n v _ _ (by
 unfold R89 noneC
 rw [List.length_map]
 exact ⟨_,c53 ..,rfl,rfl⟩)
def otherB (v:List (List Int)) (l:List Int):Bool:=if l.length ≠ (v.getD 0 []).length then true else decide ((l.length:Int) > 4)
def R90 (l:List Int) (v0:List (List Int)) (_S:SpecF) (_Fr:FreshF) (_Sq:SeqF) (Q:PostF):Prop :=
 ∃ es0,((0:Int) ≤ (0:Int) ∧ (1:Nat) = (1:Nat) ∧ (List.map (fun x => AV.slc 3 (List.map (AV.int IntKind.i64) x)) v0)[(0:Nat)]? = some (.slc 3 es0)) ∧ (((↑(List.map (AV.int IntKind.i64) l).length:Int) != (↑es0.length:Int)) = true → Q (.bool true) [[AV.slc 3 (List.map (fun x => AV.slc 3 (List.map (AV.int IntKind.i64) x)) v0)]]) ∧ (((↑(List.map (AV.int IntKind.i64) l).length:Int) != (↑es0.length:Int)) = false → Q (.bool (decide ((↑(List.map (AV.int IntKind.i64) l).length:Int) > (4:Int)))) [[AV.slc 3 (List.map (fun x => AV.slc 3 (List.map (AV.int IntKind.i64) x)) v0)]])
theorem s90 (l:List Int) (v0:List (List Int)) (v:AV) (O:List (List AV)) (h:R90 l v0 Sp Fo So (fun r O' => r = v ∧ O' = O)):Sp 90 [.slc 3 (List.map (AV.int .i64) l),.ref 0 0] [[.slc 3 (List.map (fun x => .slc 3 (List.map (AV.int .i64) x)) v0)]] v O :=
 spec_by (w:=⟨[],[],[],[],[]⟩) (k:=0) (keep:=⟨[0,1,3],[],[],[]⟩) (boxes:=[⟨32,false,[.slc 3 (List.map (fun x => .slc 3 (List.map (AV.int .i64) x)) v0)]⟩]) mixed (by exact trivial) Tryz.func90 Tryz.call90 rfl rfl rfl (Nat.le_of_ble_eq_true rfl) (by kernel_rfl) h
theorem c90 (l:List Int) (v:List (List Int)) (hv:0 < v.length):Sp 90 [.slc 3 (intsT l),.ref 0 0] [[.slc 3 (planA v)]] (.bool (otherB v l)) [[.slc 3 (planA v)]]:=s90 l v _ _ (by
 unfold R90 otherB
 have h0:=plan_get hv
 have e:v.getD 0 [] = v[0]:=by rw [List.getD_eq_getElem?_getD,List.getElem?_eq_getElem hv]; rfl
 rw [e]
 refine ⟨_,⟨by omega,by trivial,h0⟩,fun h => ⟨?_,by trivial⟩,fun h => ⟨?_,by trivial⟩⟩
 ·have h:=bne_iff_ne.1 h
  rw [List.length_map,intsT_len] at h
  rw [if_pos (by omega)]
 ·rw [bne_eq_false_iff_eq,List.length_map,intsT_len] at h
  rw [if_neg (by omega),List.length_map])
def manyC (n:Int):Bool:=outB n 0 20
def R91 (n:Int) (S:SpecF) (_Fr:FreshF) (_Sq:SeqF) (Q:PostF):Prop :=
 ∃ b0,S 53 [iN n,iN 0,iN 20] [] (.bool b0) [] ∧ Q (.bool b0) []
theorem s91 (n:Int) (v:AV) (O:List (List AV)) (h:R91 n Sp Fo So (fun r O' => r = v ∧ O' = O)):Sp 91 [iN n] [] v O :=
 spec_by (w:=⟨[],[],[],[],[]⟩) (k:=0) (keep:=⟨[0,2],[],[],[]⟩) (boxes:=[]) mixed (by exact trivial) Tryz.func91 Tryz.call91 rfl rfl rfl (Nat.le_of_ble_eq_true rfl) (by kernel_rfl) h
theorem c91 (n:Int):Sp 91 [.int .i64 n] [] (.bool (manyC n)) []:=s91 n _ _ ⟨_,c53 ..,rfl,rfl⟩
def R115f (s:List Int) (f0:List (List Int)) (S:SpecF) (_Fr:FreshF) (_Sq:SeqF) (Q:PostF):Prop :=
 ∃ (I0:Nat → List AV → Prop),(∃ m2,I0 m2 [iN 0,.agg [AV.slc 3 (List.map (fun x => AV.slc 3 (List.map (AV.int IntKind.i64) x)) f0)]]) ∧ ∀ (m2:Nat) (n3:Int) (es4:List AV),I0 m2 [iN n3,.agg [AV.slc 3 es4]] → (decide (n3 < (↑(List.map (AV.int IntKind.i64) s).length:Int)) = true → ∃ n8,((0:Int) ≤ n3 ∧ (1:Nat) = (1:Nat) ∧ (List.map (AV.int IntKind.i64) s)[n3.toNat]? = some (iN n8)) ∧ ∃ b10,S 89 [iN n8,.ref 0 0] [[AV.slc 3 es4]] (.bool b10) [[AV.slc 3 es4]] ∧ (b10 = true → Q (iN n3) [[AV.slc 3 es4]]) ∧ (b10 = false → ∃ k14,k14 < m2 ∧ I0 k14 [iN (IntKind.i64.wrap (n3 + 1)),.agg [AV.slc 3 es4]])) ∧ (decide (n3 < (↑(List.map (AV.int IntKind.i64) s).length:Int)) = false → Q (iN (-1:Int)) [[AV.slc 3 es4]])
theorem s115f (s:List Int) (f0:List (List Int)) (v:AV) (O:List (List AV)) (h:R115f s f0 Sp Fo So (fun r O' => r = v ∧ O' = O)):Sp 115 [.slc 3 (List.map (AV.int .i64) s),.fn 89 [] [.ref 0 0]] [[.slc 3 (List.map (fun x => .slc 3 (List.map (AV.int .i64) x)) f0)]] v O :=
 spec_by (w:=⟨[],[],[89],[],[]⟩) (k:=0) (keep:=⟨[0,1,4,5,7,8,9,16],[⟨2,[(8,iN 0)],[],[(1000000,.agg [.slc 3 []])],[],[],[]⟩],[],[]⟩) (boxes:=[⟨32,false,[.slc 3 (List.map (fun x => .slc 3 (List.map (AV.int .i64) x)) f0)]⟩]) mixed (by exact trivial) Tryz.func115 Tryz.call115 rfl rfl rfl (Nat.le_of_ble_eq_true rfl) (by kernel_rfl) h
theorem c115f (s:List Int) (v:List (List Int)) (hl:s.length ≤ 4611686018427387904):Sp 115 [.slc 3 (intsT s),.fn 89 [] [.ref 0 0]] [[.slc 3 (planA v)]] (.int .i64 (findI (noneC v) 0 s)) [[.slc 3 (planA v)]]:=s115f s v _ _ (by
 unfold R115f
 refine ⟨fun m vs => ∃ k:Nat,vs = [.int .i64 k,.agg [.slc 3 (planA v)]] ∧ k ≤ s.length ∧ m = s.length - k ∧ findI (noneC v) k (s.drop k) = findI (noneC v) 0 s,⟨_,0,rfl,by omega,rfl,rfl⟩,?_⟩
 rintro m n es ⟨k,hk,hle,rfl,hn⟩
 cases hk
 rw [List.length_map]
 refine ⟨fun h3 => ?_,fun h3 => ⟨?_,by trivial⟩⟩
 ·have h3:k < s.length:=by have:=of_decide_eq_true h3; omega
  have hat:=findI_at (f:=noneC v) (List.getElem?_eq_getElem h3)
  refine ⟨_,⟨by omega,by trivial,ints_get h3⟩,_,c89 s[k] v,fun h4 => ⟨?_,by trivial⟩,fun h4 => ⟨_,(by omega:s.length - (k + 1) < s.length - k),k + 1,by rw [wrapN (by omega)],by omega,rfl,?_⟩⟩
  ·rw [← hn,hat,h4]; rfl
  ·rw [← hn,hat,h4]; rfl
 ·have:k = s.length:=by have:=of_decide_eq_false h3; omega
  rw [← hn,this,List.drop_length]; rfl)
def R73f (s:List Int) (f0:List (List Int)) (S:SpecF) (_Fr:FreshF) (_Sq:SeqF) (Q:PostF):Prop :=
 ∃ n0,S 115 [AV.slc 3 (List.map (AV.int IntKind.i64) s),AV.fn (89:FuncId) [] [AV.ref 0 0]] [[AV.slc 3 (List.map (fun x => AV.slc 3 (List.map (AV.int IntKind.i64) x)) f0)]] (iN n0) [[AV.slc 3 (List.map (fun x => AV.slc 3 (List.map (AV.int IntKind.i64) x)) f0)]] ∧ Q (.bool (decide (n0 ≥ 0))) [[AV.slc 3 (List.map (fun x => AV.slc 3 (List.map (AV.int IntKind.i64) x)) f0)]]
theorem s73f (s:List Int) (f0:List (List Int)) (v:AV) (O:List (List AV)) (h:R73f s f0 Sp Fo So (fun r O' => r = v ∧ O' = O)):Sp 73 [.slc 3 (List.map (AV.int .i64) s),.fn 89 [] [.ref 0 0]] [[.slc 3 (List.map (fun x => .slc 3 (List.map (AV.int .i64) x)) f0)]] v O :=
 spec_by (w:=⟨[],[],[115],[],[]⟩) (k:=0) (keep:=⟨[0,1,4],[],[],[]⟩) (boxes:=[⟨32,false,[.slc 3 (List.map (fun x => .slc 3 (List.map (AV.int .i64) x)) f0)]⟩]) mixed (by exact trivial) Tryz.func73 Tryz.call73 rfl rfl rfl (Nat.le_of_ble_eq_true rfl) (by kernel_rfl) h
theorem c73f (s:List Int) (v:List (List Int)) (hl:s.length ≤ 4611686018427387904):Sp 73 [.slc 3 (intsT s),.fn 89 [] [.ref 0 0]] [[.slc 3 (planA v)]] (.bool (s.any (noneC v))) [[.slc 3 (planA v)]]:=s73f s v _ _ ⟨_,c115f s v hl,by rw [findI_any],by trivial⟩
def R115g (s:List Int) (S:SpecF) (_Fr:FreshF) (_Sq:SeqF) (Q:PostF):Prop :=
 ∃ (I0:Nat → List AV → Prop),(∃ m2,I0 m2 [iN 0]) ∧ ∀ (m2:Nat) (n3:Int),I0 m2 [iN n3] → (decide (n3 < (↑(List.map (AV.int IntKind.i64) s).length:Int)) = true → ∃ n7,((0:Int) ≤ n3 ∧ (1:Nat) = (1:Nat) ∧ (List.map (AV.int IntKind.i64) s)[n3.toNat]? = some (iN n7)) ∧ ∃ b9,S 91 [iN n7] [] (.bool b9) [] ∧ (b9 = true → Q (iN n3) []) ∧ (b9 = false → ∃ k13,k13 < m2 ∧ I0 k13 [iN (IntKind.i64.wrap (n3 + 1))])) ∧ (decide (n3 < (↑(List.map (AV.int IntKind.i64) s).length:Int)) = false → Q (iN (-1:Int)) [])
theorem s115g (s:List Int) (v:AV) (O:List (List AV)) (h:R115g s Sp Fo So (fun r O' => r = v ∧ O' = O)):Sp 115 [.slc 3 (List.map (AV.int .i64) s),.fn 91 [] []] [] v O :=
 spec_by (w:=⟨[],[],[91],[],[]⟩) (k:=0) (keep:=⟨[0,1,4,5,7,8,9,16],[⟨2,[(8,iN 0)],[],[],[],[],[]⟩],[],[]⟩) (boxes:=[]) mixed (by exact trivial) Tryz.func115 Tryz.call115 rfl rfl rfl (Nat.le_of_ble_eq_true rfl) (by kernel_rfl) h
theorem c115g (s:List Int) (hl:s.length ≤ 4611686018427387904):Sp 115 [.slc 3 (intsT s),.fn 91 [] []] [] (.int .i64 (findI manyC 0 s)) []:=s115g s _ _ (by
 unfold R115g
 refine ⟨fun m vs => ∃ k:Nat,vs = [.int .i64 k] ∧ k ≤ s.length ∧ m = s.length - k ∧ findI manyC k (s.drop k) = findI manyC 0 s,⟨_,0,rfl,by omega,rfl,rfl⟩,?_⟩
 rintro m n ⟨k,hk,hle,rfl,hn⟩
 cases hk
 rw [List.length_map]
 refine ⟨fun h3 => ?_,fun h3 => ⟨?_,by trivial⟩⟩
 ·have h3:k < s.length:=by have:=of_decide_eq_true h3; omega
  have hat:=findI_at (f:=manyC) (List.getElem?_eq_getElem h3)
  refine ⟨_,⟨by omega,by trivial,ints_get h3⟩,_,c91 s[k],fun h4 => ⟨?_,by trivial⟩,fun h4 => ⟨_,(by omega:s.length - (k + 1) < s.length - k),k + 1,by rw [wrapN (by omega)],by omega,rfl,?_⟩⟩
  ·rw [← hn,hat,h4]; rfl
  ·rw [← hn,hat,h4]; rfl
 ·have:k = s.length:=by have:=of_decide_eq_false h3; omega
  rw [← hn,this,List.drop_length]; rfl)
def R73g (s:List Int) (S:SpecF) (_Fr:FreshF) (_Sq:SeqF) (Q:PostF):Prop :=
 ∃ n0,S 115 [AV.slc 3 (List.map (AV.int IntKind.i64) s),AV.fn (91:FuncId) [] []] [] (iN n0) [] ∧ Q (.bool (decide (n0 ≥ 0))) []
theorem s73g (s:List Int) (v:AV) (O:List (List AV)) (h:R73g s Sp Fo So (fun r O' => r = v ∧ O' = O)):Sp 73 [.slc 3 (List.map (AV.int .i64) s),.fn 91 [] []] [] v O :=
 spec_by (w:=⟨[],[],[115],[],[]⟩) (k:=0) (keep:=⟨[0,1,4],[],[],[]⟩) (boxes:=[]) mixed (by exact trivial) Tryz.func73 Tryz.call73 rfl rfl rfl (Nat.le_of_ble_eq_true rfl) (by kernel_rfl) h
theorem c73g (s:List Int) (hl:s.length ≤ 4611686018427387904):Sp 73 [.slc 3 (intsT s),.fn 91 [] []] [] (.bool (s.any manyC)) []:=s73g s _ _ ⟨_,c115g s hl,by rw [findI_any],by trivial⟩
def R121b (s f0:List (List Int)) (S:SpecF) (_Fr:FreshF) (_Sq:SeqF) (Q:PostF):Prop :=
 ∃ (I0:Nat → List AV → Prop),(∃ m2,I0 m2 [iN 0,.agg [AV.slc 3 (List.map (fun x => AV.slc 3 (List.map (AV.int IntKind.i64) x)) f0)]]) ∧ ∀ (m2:Nat) (n3:Int) (es4:List AV),I0 m2 [iN n3,.agg [AV.slc 3 es4]] → (decide (n3 < (↑(List.map (fun x => AV.slc 3 (List.map (AV.int IntKind.i64) x)) s).length:Int)) = true → ∃ es8,((0:Int) ≤ n3 ∧ (1:Nat) = (1:Nat) ∧ (List.map (fun x => AV.slc 3 (List.map (AV.int IntKind.i64) x)) s)[n3.toNat]? = some (.slc 3 es8)) ∧ ∃ b10,S 90 [AV.slc 3 es8,.ref 0 0] [[AV.slc 3 es4]] (.bool b10) [[AV.slc 3 es4]] ∧ (b10 = true → Q (iN n3) [[AV.slc 3 es4]]) ∧ (b10 = false → ∃ k14,k14 < m2 ∧ I0 k14 [iN (IntKind.i64.wrap (n3 + 1)),.agg [AV.slc 3 es4]])) ∧ (decide (n3 < (↑(List.map (fun x => AV.slc 3 (List.map (AV.int IntKind.i64) x)) s).length:Int)) = false → Q (iN (-1:Int)) [[AV.slc 3 es4]])
theorem s121b (s:List (List Int)) (f0:List (List Int)) (v:AV) (O:List (List AV)) (h:R121b s f0 Sp Fo So (fun r O' => r = v ∧ O' = O)):Sp 121 [.slc 3 (List.map (fun x => .slc 3 (List.map (AV.int .i64) x)) s),.fn 90 [] [.ref 0 0]] [[.slc 3 (List.map (fun x => .slc 3 (List.map (AV.int .i64) x)) f0)]] v O :=
 spec_by (w:=⟨[],[],[90],[],[]⟩) (k:=0) (keep:=⟨[0,1,4,5,7,8,9,16],[⟨2,[(8,iN 0)],[],[(1000000,.agg [.slc 3 []])],[],[],[]⟩],[],[]⟩) (boxes:=[⟨32,false,[.slc 3 (List.map (fun x => .slc 3 (List.map (AV.int .i64) x)) f0)]⟩]) mixed (by exact trivial) Tryz.func121 Tryz.call121 rfl rfl rfl (Nat.le_of_ble_eq_true rfl) (by kernel_rfl) h
theorem c121b (s:List (List Int)) (hl:s.length ≤ 4611686018427387904):Sp 121 [.slc 3 (planA s),.fn 90 [] [.ref 0 0]] [[.slc 3 (planA s)]] (.int .i64 (findI (otherB s) 0 s)) [[.slc 3 (planA s)]]:=s121b s s _ _ (by
 unfold R121b
 refine ⟨fun m vs => ∃ k:Nat,vs = [.int .i64 k,.agg [.slc 3 (planA s)]] ∧ k ≤ s.length ∧ m = s.length - k ∧ findI (otherB s) k (s.drop k) = findI (otherB s) 0 s,⟨_,0,rfl,by omega,rfl,rfl⟩,?_⟩
 rintro m n es ⟨k,hk,hle,rfl,hn⟩
 cases hk
 rw [List.length_map]
 refine ⟨fun h3 => ?_,fun h3 => ⟨?_,by trivial⟩⟩
 ·have h3:k < s.length:=by have:=of_decide_eq_true h3; omega
  have hat:=findI_at (f:=otherB s) (List.getElem?_eq_getElem h3)
  refine ⟨_,⟨by omega,by trivial,plan_get h3⟩,_,c90 s[k] s (by omega),fun h4 => ⟨?_,by trivial⟩,fun h4 => ⟨_,(by omega:s.length - (k + 1) < s.length - k),k + 1,by rw [wrapN (by omega)],by omega,rfl,?_⟩⟩
  ·rw [← hn,hat,h4]; rfl
  ·rw [← hn,hat,h4]; rfl
 ·have:k = s.length:=by have:=of_decide_eq_false h3; omega
  rw [← hn,this,List.drop_length]; rfl)
def R93b (s f0:List (List Int)) (S:SpecF) (_Fr:FreshF) (_Sq:SeqF) (Q:PostF):Prop :=
 ∃ n0,S 121 [AV.slc 3 (List.map (fun x => AV.slc 3 (List.map (AV.int IntKind.i64) x)) s),AV.fn (90:FuncId) [] [AV.ref 0 0]] [[AV.slc 3 (List.map (fun x => AV.slc 3 (List.map (AV.int IntKind.i64) x)) f0)]] (iN n0) [[AV.slc 3 (List.map (fun x => AV.slc 3 (List.map (AV.int IntKind.i64) x)) f0)]] ∧ Q (.bool (decide (n0 ≥ 0))) [[AV.slc 3 (List.map (fun x => AV.slc 3 (List.map (AV.int IntKind.i64) x)) f0)]]
theorem s93b (s:List (List Int)) (f0:List (List Int)) (v:AV) (O:List (List AV)) (h:R93b s f0 Sp Fo So (fun r O' => r = v ∧ O' = O)):Sp 93 [.slc 3 (List.map (fun x => .slc 3 (List.map (AV.int .i64) x)) s),.fn 90 [] [.ref 0 0]] [[.slc 3 (List.map (fun x => .slc 3 (List.map (AV.int .i64) x)) f0)]] v O :=
 spec_by (w:=⟨[],[],[121],[],[]⟩) (k:=0) (keep:=⟨[0,1,4],[],[],[]⟩) (boxes:=[⟨32,false,[.slc 3 (List.map (fun x => .slc 3 (List.map (AV.int .i64) x)) f0)]⟩]) mixed (by exact trivial) Tryz.func93 Tryz.call93 rfl rfl rfl (Nat.le_of_ble_eq_true rfl) (by kernel_rfl) h
theorem c93b (s:List (List Int)) (hl:s.length ≤ 4611686018427387904):Sp 93 [.slc 3 (planA s),.fn 90 [] [.ref 0 0]] [[.slc 3 (planA s)]] (.bool (s.any (otherB s))) [[.slc 3 (planA s)]]:=s93b s s _ _ ⟨_,c121b s hl,by rw [findI_any],by trivial⟩
def R92 (l:List Int) (_S:SpecF) (Fr:FreshF) (Sq:SeqF) (Q:PostF):Prop :=
 ∃ xs0,Sq (107:Nat) [AV.ref 0 0] [[AV.slc 3 (List.map (AV.int IntKind.i64) l)]] xs0 ∧ (∀ (x3:List AV),x3 ∈ xs0 → fitL [iN 0] x3 = true ∧ AV.treeL x3 = true) ∧ ∃ (I3:Nat → List AV → Prop),I3 (0:Nat) [AV.slc 3 []] ∧ (∀ (i6:Nat) (n7:Int),xs0[i6]? = some [iN n7] → ∀ (es9:List AV),I3 i6 [AV.slc 3 es9] → elemsOf (1:Nat) [iN n7] ∧ ((List.flatMap AV.cells es9).length = es9.length * Tryz.prog.cellsOf (3:Nat) ∧ (es9.length + 1 + (512:Nat)) * 41 ≤ (1125899906842624:Nat) ∧ ones [iN n7] = true ∧ ones (List.flatMap AV.cells es9) = true) ∧ Same [AV.undef] ∧ ∃ es14,(es14.length = es9.length + 1 ∧ List.flatMap AV.cells es14 = List.flatMap AV.cells es9 ++ [iN n7]) ∧ I3 (i6 + 1) [AV.slc 3 es14]) ∧ ∀ (es6:List AV),I3 xs0.length [AV.slc 3 es6] → ∃ zs8 zs'9,(List.flatMap AV.cells es6 = List.map (AV.int IntKind.i64) zs8 ∧ zs8.length = es6.length ∧ (0:Nat) < es6.length ∧ zs'9.length = es6.length ∧ Fr (106:Nat) [AV.tup (List.map (AV.int IntKind.i64) zs8)] (0:Nat) (List.map (AV.int IntKind.i64) zs'9)) ∧ ∃ m11,m11 ≤ es6.length ∧ ∃ zs13 zs'14,(List.map (AV.int IntKind.i64) zs'9 = List.map (AV.int IntKind.i64) zs13 ∧ zs13.length = es6.length ∧ (0:Nat) < es6.length ∧ zs'14.length = es6.length ∧ Fr (56:Nat) [AV.tup (List.map (AV.int IntKind.i64) zs13)] (m11 + 1) (List.map (AV.int IntKind.i64) zs'14)) ∧ Q (.bool (decide ((↑m11:Int) < (↑(List.map (AV.int IntKind.i64) l).length:Int)))) []
theorem s92 (l:List Int) (v:AV) (O:List (List AV)) (h:R92 l Sp Fo So (fun r O' => r = v ∧ O' = O)):Sp 92 [.slc 3 (List.map (AV.int .i64) l)] [] v O :=
 spec_by (w:=⟨[106,56],[],[],[(54,⟨[0,2,3],[],[],[]⟩),(105,⟨[0,2],[],[],[]⟩),(127,⟨[0,1,2,4,5,6,7],[⟨3,[],[],[],[(2,0,3)],[iN 0],[]⟩],[],[(2,1)]⟩),(55,⟨[0,1,2],[],[],[]⟩)],[]⟩) (k:=4) (keep:=⟨[0,2],[],[],[]⟩) (boxes:=[]) mixed (by exact ⟨Tryz.call54,⟨Tryz.call105,⟨Tryz.call127,⟨Tryz.call55,trivial⟩⟩⟩⟩) Tryz.func92 Tryz.call92 rfl rfl rfl (Nat.le_of_ble_eq_true rfl) (by kernel_rfl) h
theorem twice_some (l:List Int) (hl:l.length ≤ 17592186043904) (hne:l ≠ []):Sp 92 [.slc 3 (intsT l)] [] (.bool (dupB l)) []:=s92 l _ _ (by
 unfold R92
 have hpos:0 < l.length:=List.length_pos_iff.2 hne
 refine ⟨_,values_seq l (by omega),fun x hx => ?_,fun i vs => vs = [.slc 3 (intsT (l.take i))],rfl,fun i n hx es hI => ?_,fun es hI => ?_⟩
 ·obtain ⟨y,_,rfl⟩:=List.mem_map.1 hx
  exact ⟨rfl,rfl⟩
 ·cases hI
  obtain ⟨h1,h2⟩:=take_int hx
  have hs:=ints_step (l.take i) (by rw [List.length_take]; omega) n
  refine ⟨hs.1,hs.2,?_⟩
  repeat (first | refine And.intro rfl ?_ | refine And.intro trivial ?_)
  exact ⟨intsT (l.take (i + 1)),⟨by rw [h2,List.length_append]; rfl,by rw [h2,List.flatMap_append]; rfl⟩,rfl⟩
 ·rw [List.length_map,List.take_length] at hI
  cases hI
  have hsl:=sortL_len l
  have hcl:=compL_len (sortL l)
  refine ⟨l,sortL l,⟨by rw [flat1 ints_cells]; rfl,(intsT_len l).symm,by rw [intsT_len]; exact hpos,by rw [intsT_len]; exact hsl,mutSort l (by omega)⟩,(Go.Lib.compact (sortL l)).length,by rw [intsT_len,← hsl]; exact compact_le _,sortL l,compL (sortL l),⟨rfl,by rw [intsT_len]; exact hsl,by rw [intsT_len]; exact hpos,by rw [intsT_len,hcl]; exact hsl,mutComp (sortL l) (by omega)⟩,?_⟩
  rw [List.length_map]
  have hdd:decide (((Go.Lib.compact (sortL l)).length:Int) < (l.length:Int)) = dupB l:=by unfold dupB; rw [Bool.eq_iff_iff,decide_eq_true_eq,decide_eq_true_eq]; omega
  rw [hdd]
  exact ⟨rfl,rfl⟩)
def R92m (_k:Int) (S:SpecF) (_Fr:FreshF) (Sq:SeqF) (Q:PostF):Prop :=
 ∃ xs0,Sq (107:Nat) [AV.ref 0 0] [[AV.slc 3 []]] xs0 ∧ (∀ (x3:List AV),x3 ∈ xs0 → fitL [iN 0] x3 = true ∧ AV.treeL x3 = true) ∧ ∃ (I3:Nat → List AV → Prop),I3 (0:Nat) [AV.slc 3 []] ∧ (∀ (i6:Nat) (n7:Int),xs0[i6]? = some [iN n7] → ∀ (es9:List AV),I3 i6 [AV.slc 3 es9] → elemsOf (1:Nat) [iN n7] ∧ ((List.flatMap AV.cells es9).length = es9.length * 1 ∧ (es9.length + 1 + (512:Nat)) * 41 ≤ (1125899906842624:Nat) ∧ ones [iN n7] = true ∧ ones (List.flatMap AV.cells es9) = true) ∧ Same [AV.undef] ∧ ∃ es14,(es14.length = es9.length + 1 ∧ List.flatMap AV.cells es14 = List.flatMap AV.cells es9 ++ [iN n7]) ∧ I3 (i6 + 1) [AV.slc 3 es14]) ∧ ∀ (es6:List AV),I3 xs0.length [AV.slc 3 es6] → ((0:Nat) + es6.length * 1 ≤ (List.flatMap AV.cells es6).length ∧ ones (List.flatMap AV.cells es6) = true) ∧ S 106 [AV.slc 3 (chunks (1:Nat) (isAggT Tryz.prog (3:Nat)) es6.length (List.drop (0:Nat) (List.flatMap AV.cells es6)))] [] (.tup []) [] ∧ ((0:Nat) + es6.length * 1 ≤ (List.flatMap AV.cells es6).length ∧ ones (List.flatMap AV.cells es6) = true) ∧ ∃ es11,S 56 [AV.slc 3 (chunks (1:Nat) (isAggT Tryz.prog (3:Nat)) es6.length (List.drop (0:Nat) (List.flatMap AV.cells es6)))] [] (.slc 3 es11) [] ∧ Q (.bool (decide ((↑es11.length:Int) < (↑([]:List AV).length:Int)))) []
theorem s92m (k:Int) (v:AV) (O:List (List AV)) (h:R92m k Sp Fo So (fun r O' => r = v ∧ O' = O)):Sp 92 [.slc 3 []] [] v O :=
 spec_by (w:=⟨[],[],[],[(54,⟨[0,2,3],[],[],[]⟩),(105,⟨[0,2],[],[],[]⟩),(127,⟨[0,1,2,4,5,6,7],[⟨3,[],[],[],[(2,0,3)],[iN 0],[]⟩],[],[(2,1)]⟩),(55,⟨[0,1,2],[],[],[]⟩)],[]⟩) (k:=4) (keep:=⟨[0,2],[],[],[]⟩) (boxes:=[]) mixed (by exact ⟨Tryz.call54,⟨Tryz.call105,⟨Tryz.call127,⟨Tryz.call55,trivial⟩⟩⟩⟩) Tryz.func92 Tryz.call92 rfl rfl rfl (Nat.le_of_ble_eq_true rfl) (by kernel_rfl) h
theorem twice_none:Sp 92 [.slc 3 []] [] (.bool (dupB [])) []:=s92m 0 _ _ (by
 unfold R92m
 refine ⟨_,values_seq [] (Nat.zero_le _),fun x hx => (by cases hx),fun i vs => vs = [.slc 3 []],rfl,fun i n hx => (by cases hx),fun es hI => ?_⟩
 cases hI
 refine ⟨⟨by simp,rfl⟩,?_⟩
 have e:∀ P,P = 3 → chunks 1 (isAggT Tryz.prog P) ([]:List AV).length (List.drop 0 (List.flatMap AV.cells [])) = []:=fun P hP => by subst hP; rw [show isAggT Tryz.prog 3 = false from agg3]; rfl
 rw [e _ rfl]
 refine ⟨sort_none,⟨by simp,rfl⟩,_,compact_none,?_,by trivial⟩
 have hdd:dupB [] = false:=by decide +kernel
 rw [hdd]; rfl)
theorem twice_ok (l:List Int) (hl:l.length ≤ 17592186043904):Sp 92 [.slc 3 (intsT l)] [] (.bool (dupB l)) []:=by
 by_cases h:l = []
 ·subst h; exact twice_none
 ·exact twice_some l hl h
def R121c (s:List (List Int)) (S:SpecF) (_Fr:FreshF) (_Sq:SeqF) (Q:PostF):Prop :=
 ∃ (I0:Nat → List AV → Prop),(∃ m2,I0 m2 [iN 0]) ∧ ∀ (m2:Nat) (n3:Int),I0 m2 [iN n3] → (decide (n3 < (↑(List.map (fun x => AV.slc 3 (List.map (AV.int IntKind.i64) x)) s).length:Int)) = true → ∃ es7,((0:Int) ≤ n3 ∧ (1:Nat) = (1:Nat) ∧ (List.map (fun x => AV.slc 3 (List.map (AV.int IntKind.i64) x)) s)[n3.toNat]? = some (.slc 3 es7)) ∧ ∃ b9,S 92 [AV.slc 3 es7] [] (.bool b9) [] ∧ (b9 = true → Q (iN n3) []) ∧ (b9 = false → ∃ k13,k13 < m2 ∧ I0 k13 [iN (IntKind.i64.wrap (n3 + 1))])) ∧ (decide (n3 < (↑(List.map (fun x => AV.slc 3 (List.map (AV.int IntKind.i64) x)) s).length:Int)) = false → Q (iN (-1:Int)) [])
theorem s121c (s:List (List Int)) (v:AV) (O:List (List AV)) (h:R121c s Sp Fo So (fun r O' => r = v ∧ O' = O)):Sp 121 [.slc 3 (List.map (fun x => .slc 3 (List.map (AV.int .i64) x)) s),.fn 92 [] []] [] v O :=
 spec_by (w:=⟨[],[],[92],[],[]⟩) (k:=0) (keep:=⟨[0,1,4,5,7,8,9,16],[⟨2,[(8,iN 0)],[],[],[],[],[]⟩],[],[]⟩) (boxes:=[]) mixed (by exact trivial) Tryz.func121 Tryz.call121 rfl rfl rfl (Nat.le_of_ble_eq_true rfl) (by kernel_rfl) h
theorem c121c (s:List (List Int)) (hl:s.length ≤ 4611686018427387904) (hs:∀ l ∈ s,l.length ≤ 17592186043904):Sp 121 [.slc 3 (planA s),.fn 92 [] []] [] (.int .i64 (findI dupB 0 s)) []:=s121c s _ _ (by
 unfold R121c
 refine ⟨fun m vs => ∃ k:Nat,vs = [.int .i64 k] ∧ k ≤ s.length ∧ m = s.length - k ∧ findI dupB k (s.drop k) = findI dupB 0 s,⟨_,0,rfl,by omega,rfl,rfl⟩,?_⟩
 rintro m n ⟨k,hk,hle,rfl,hn⟩
 cases hk
 rw [List.length_map]
 refine ⟨fun h3 => ?_,fun h3 => ⟨?_,by trivial⟩⟩
 ·have h3:k < s.length:=by have:=of_decide_eq_true h3; omega
  have hat:=findI_at (f:=dupB) (List.getElem?_eq_getElem h3)
  refine ⟨_,⟨by omega,by trivial,plan_get h3⟩,_,twice_ok s[k] (hs _ (List.getElem_mem h3)),fun h4 => ⟨?_,by trivial⟩,fun h4 => ⟨_,(by omega:s.length - (k + 1) < s.length - k),k + 1,by rw [wrapN (by omega)],by omega,rfl,?_⟩⟩
  ·rw [← hn,hat,h4]; rfl
  ·rw [← hn,hat,h4]; rfl
 ·have:k = s.length:=by have:=of_decide_eq_false h3; omega
  rw [← hn,this,List.drop_length]; rfl)
def R93c (s:List (List Int)) (S:SpecF) (_Fr:FreshF) (_Sq:SeqF) (Q:PostF):Prop :=
 ∃ n0,S 121 [AV.slc 3 (List.map (fun x => AV.slc 3 (List.map (AV.int IntKind.i64) x)) s),AV.fn (92:FuncId) [] []] [] (iN n0) [] ∧ Q (.bool (decide (n0 ≥ 0))) []
theorem s93c (s:List (List Int)) (v:AV) (O:List (List AV)) (h:R93c s Sp Fo So (fun r O' => r = v ∧ O' = O)):Sp 93 [.slc 3 (List.map (fun x => .slc 3 (List.map (AV.int .i64) x)) s),.fn 92 [] []] [] v O :=
 spec_by (w:=⟨[],[],[121],[],[]⟩) (k:=0) (keep:=⟨[0,1,4],[],[],[]⟩) (boxes:=[]) mixed (by exact trivial) Tryz.func93 Tryz.call93 rfl rfl rfl (Nat.le_of_ble_eq_true rfl) (by kernel_rfl) h
theorem c93c (s:List (List Int)) (hl:s.length ≤ 4611686018427387904) (hs:∀ l ∈ s,l.length ≤ 17592186043904):Sp 93 [.slc 3 (planA s),.fn 92 [] []] [] (.bool (s.any dupB)) []:=s93c s _ _ ⟨_,c121c s hl hs,by rw [findI_any],by trivial⟩
def mixL (f:Int → Int → Int) (a b:List Int) (k:Nat):List Int:=List.zipWith f (a.take k) (b.take k) ++ a.drop k
theorem mix_len {f:Int → Int → Int} {a b:List Int} {k:Nat} (h:a.length = b.length) (hk:k ≤ a.length):(mixL f a b k).length = a.length:=by
 unfold mixL
 rw [List.length_append,List.length_zipWith,List.length_take,List.length_take,List.length_drop]; omega
theorem mix_get {f:Int → Int → Int} {a b:List Int} {k j:Nat} (h:a.length = b.length) (hk:k ≤ a.length) (hj:j < a.length):(mixL f a b k)[j]? = some (if j < k then f (a.getD j 0) (b.getD j 0) else a.getD j 0):=by
 have ea:a[j]? = some (a.getD j 0):=by rw [List.getD_eq_getElem?_getD,List.getElem?_eq_getElem hj]; rfl
 have eb:b[j]? = some (b.getD j 0):=by rw [List.getD_eq_getElem?_getD,List.getElem?_eq_getElem (by omega)]; rfl
 unfold mixL
 by_cases hjk:j < k
 ·rw [List.getElem?_append_left (by rw [List.length_zipWith,List.length_take,List.length_take]; omega),List.getElem?_zipWith,List.getElem?_take,List.getElem?_take,if_pos hjk,if_pos hjk,if_pos hjk,ea,eb]
 ·rw [List.getElem?_append_right (by rw [List.length_zipWith,List.length_take,List.length_take]; omega),List.length_zipWith,List.length_take,List.length_take,List.getElem?_drop,if_neg hjk,show k + (j - min (min k a.length) (min k b.length)) = j by omega,ea]
theorem mix_set {f:Int → Int → Int} {a b:List Int} {k:Nat} (h:a.length = b.length) (hk:k < a.length):(mixL f a b k).set k (f (a.getD k 0) (b.getD k 0)) = mixL f a b (k + 1):=by
 have l1:=mix_len (f:=f) h (Nat.le_of_lt hk)
 have l2:=mix_len (f:=f) (k:=k + 1) h hk
 refine List.ext_getElem? fun j => ?_
 rw [List.getElem?_set,l1]
 by_cases hj:j < a.length
 ·rw [mix_get h hk hj]
  by_cases hkj:k = j
  ·subst hkj; rw [if_pos rfl,if_pos hj,if_pos (by omega)]
  ·rw [if_neg hkj,mix_get h (Nat.le_of_lt hk) hj]
   by_cases h2:j < k
   ·rw [if_pos h2,if_pos (by omega)]
   ·rw [if_neg h2,if_neg (by omega)]
 ·rw [if_neg (by omega),List.getElem?_eq_none (by omega),List.getElem?_eq_none (by omega)]
theorem mix_zero {f:Int → Int → Int} {a b:List Int}:mixL f a b 0 = a:=rfl
theorem mix_full {f:Int → Int → Int} {a b:List Int} (h:a.length = b.length):mixL f a b a.length = List.zipWith f a b:=by
 unfold mixL
 rw [List.take_length,h,List.take_length,← h,List.drop_length,List.append_nil]
theorem ints_norm (l:List Int):AV.normL (intsT l) = intsT l:=by
 rw [normL_eq]; unfold intsT; rw [List.map_map]; rfl
theorem ints_part {l:List Int} {k:Nat} {x:Int} (h:l[k]? = some x):Option.map AV.norm (partA Tryz.prog 3 (intsT l) (0 + ((k:Nat):Int).toNat * 1)) = some (.int .i64 x):=by
 unfold partA
 rw [show Tryz.prog.underlying 3 = some (.int .i64) by kernel_rfl,Int.toNat_natCast,show 0 + k * 1 = k by omega]
 dsimp only
 unfold intsT
 rw [List.getElem?_map,h]; rfl
theorem ints_set {l:List Int} {k:Nat} {x:Int} (h:k < l.length):setCells (intsT l) (0 + ((k:Nat):Int).toNat * 1) [AV.int .i64 x] = intsT (l.set k x):=by
 unfold setCells intsT
 rw [Int.toNat_natCast,show 0 + k * 1 = k by omega,List.map_set,List.set_eq_take_append_cons_drop,if_pos (by rw [List.length_map]; exact h)]; rfl
theorem ints_zero (n:Nat):AV.normL (List.replicate ((n:Nat):Int).toNat [AV.int .i64 0]).flatten = intsT (List.replicate n 0):=by
 rw [Int.toNat_natCast,normL_eq]
 unfold intsT
 induction n with
 | zero => rfl
 | succ n ih => rw [List.replicate_succ,List.flatten_cons,List.map_append,ih,List.replicate_succ,List.map_cons]; rfl
end Go.Proofs.YtdeeekgohhkdbaaGreatDoor

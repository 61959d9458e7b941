/- Contracts: what is asked of needs and sets; one list into another, number by number. -/
import Derived.Test.YtdeeekgohhkdbaaGreatDoorSm
namespace Go.Proofs.YtdeeekgohhkdbaaGreatDoor
open Go.IntKind (wrap i64 u64)
open Go.RowKit
def Yx (needs:List (List Int)) (n:Int):Bool:=qa n 0 (wrap i64 ((needs.length:Int)-1))
def R89 (n:Int) (v0:List (List Int)) (S:SpecF) (_Fr:FreshF) (_Sq:SeqF) (Q:ym):Prop :=
 ∃b0,S 53 [iN n,iN 0,iN (wrap i64 ((↑(List.map (fun x=>AV.slc 3 (List.map (AV.int i64) x)) v0).length:Int)-(1:Int)))] [] (.bool b0) []/\Q (.bool b0) [[AV.slc 3 (List.map (fun x=>AV.slc 3 (List.map (AV.int i64) x)) v0)]]
theorem s89 (n:Int) (v0:List (List Int)) (v:AV) (O:List (List AV)) (h:R89 n v0 Sp Fo So (fun r O'=>r=v/\O'=O)):Sp 89 [iN n,.ref 0 0] [[.slc 3 (List.map (fun x=>.slc 3 (List.map (AV.int .i64) x)) v0)]] v O :=
 yj (w:=⟨[],[],[],[],[]⟩) (k:=0) (keep:=⟨[0,1,3],[],[],[]⟩) (boxes:=[⟨32,false,[.slc 3 (List.map (fun x=>.slc 3 (List.map (AV.int .i64) x)) v0)]⟩]) mixed (by exact trivial) Tryz.func89 Tryz.call89 rfl rfl rfl (Nat.le_of_ble_eq_true rfl) (by kernel_rfl) h
theorem c89 (n:Int) (v:List (List Int)):Sp 89 [.int .i64 n,.ref 0 0] [[.slc 3 (yC v)]] (.bool (Yx v n)) [[.slc 3 (yC v)]]:=s89 n v _ _ (by
 unfold R89 Yx;rw[List.length_map];exact⟨_,c53 ..,rfl,rfl⟩)
def vd (v:List (List Int)) (l:List Int):Bool:=if l.length≠(v.getD 0 []).length then true else decide ((l.length:Int)>4)
def R90 (l:List Int) (v0:List (List Int)) (_S:SpecF) (_Fr:FreshF) (_Sq:SeqF) (Q:ym):Prop :=
 ∃es0,((0:Int)<=(0:Int)/\(1:Nat)=(1:Nat)/\(List.map (fun x=>AV.slc 3 (List.map (AV.int i64) x)) v0)[(0:Nat)]? = some (.slc 3 es0))/\(((↑(List.map (AV.int i64) l).length:Int) != (↑es0.length:Int))=true->Q (.bool true) [[AV.slc 3 (List.map (fun x=>AV.slc 3 (List.map (AV.int i64) x)) v0)]])/\(((↑(List.map (AV.int i64) l).length:Int) != (↑es0.length:Int))=false->Q (.bool (decide ((↑(List.map (AV.int i64) l).length:Int)>(4:Int)))) [[AV.slc 3 (List.map (fun x=>AV.slc 3 (List.map (AV.int i64) x)) v0)]])
theorem s90 (l:List Int) (v0:List (List Int)) (v:AV) (O:List (List AV)) (h:R90 l v0 Sp Fo So (fun r O'=>r=v/\O'=O)):Sp 90 [.slc 3 (List.map (AV.int .i64) l),.ref 0 0] [[.slc 3 (List.map (fun x=>.slc 3 (List.map (AV.int .i64) x)) v0)]] v O :=
 yj (w:=⟨[],[],[],[],[]⟩) (k:=0) (keep:=⟨[0,1,3],[],[],[]⟩) (boxes:=[⟨32,false,[.slc 3 (List.map (fun x=>.slc 3 (List.map (AV.int .i64) x)) v0)]⟩]) mixed (by exact trivial) Tryz.func90 Tryz.call90 rfl rfl rfl (Nat.le_of_ble_eq_true rfl) (by kernel_rfl) h
theorem c90 (l:List Int) (v:List (List Int)) (hv:0<v.length):Sp 90 [.slc 3 (yo l),.ref 0 0] [[.slc 3 (yC v)]] (.bool (vd v l)) [[.slc 3 (yC v)]]:=s90 l v _ _ (by
 unfold R90 vd;have h0:=jP hv;have e:v.getD 0 []=v[0]:=by rw[List.getD_eq_getElem?_getD,List.getElem?_eq_getElem hv];rfl
 rw[e];refine⟨_,⟨by omega,by trivial,h0⟩,fun h=>⟨?_,by trivial⟩,fun h=>⟨?_,by trivial⟩⟩
 ·have h:=bne_iff_ne.1 h;rw[List.length_map,yz] at h;rw[if_pos (by omega)]
 ·rw[bne_eq_false_iff_eq,List.length_map,yz] at h;rw[if_neg (by omega),List.length_map])
def XB (n:Int):Bool:=qa n 0 20
def R91 (n:Int) (S:SpecF) (_Fr:FreshF) (_Sq:SeqF) (Q:ym):Prop :=
 ∃b0,S 53 [iN n,iN 0,iN 20] [] (.bool b0) []/\Q (.bool b0) []
theorem s91 (n:Int) (v:AV) (O:List (List AV)) (h:R91 n Sp Fo So (fun r O'=>r=v/\O'=O)):Sp 91 [iN n] [] v O :=
 yj (w:=⟨[],[],[],[],[]⟩) (k:=0) (keep:=⟨[0,2],[],[],[]⟩) (boxes:=[]) mixed (by exact trivial) Tryz.func91 Tryz.call91 rfl rfl rfl (Nat.le_of_ble_eq_true rfl) (by kernel_rfl) h
theorem c91 (n:Int):Sp 91 [.int .i64 n] [] (.bool (XB n)) []:=s91 n _ _ ⟨_,c53 ..,rfl,rfl⟩
def H7 (s:List Int) (f0:List (List Int)) (S:SpecF) (_Fr:FreshF) (_Sq:SeqF) (Q:ym):Prop :=
 ∃(I0:Nat->List AV->Prop),(∃m2,I0 m2 [iN 0,.agg [AV.slc 3 (List.map (fun x=>AV.slc 3 (List.map (AV.int i64) x)) f0)]])/\∀(m2:Nat) (n3:Int) (es4:List AV),I0 m2 [iN n3,.agg [AV.slc 3 es4]]->(decide (n3<(↑(List.map (AV.int i64) s).length:Int))=true->∃n8,((0:Int)<=n3/\(1:Nat)=(1:Nat)/\(List.map (AV.int i64) s)[n3.toNat]? = some (iN n8))/\∃b10,S 89 [iN n8,.ref 0 0] [[AV.slc 3 es4]] (.bool b10) [[AV.slc 3 es4]]/\(b10=true->Q (iN n3) [[AV.slc 3 es4]])/\(b10=false->∃k14,k14<m2/\I0 k14 [iN (wrap i64 (n3+1)),.agg [AV.slc 3 es4]]))/\(decide (n3<(↑(List.map (AV.int i64) s).length:Int))=false->Q (iN (-1:Int)) [[AV.slc 3 es4]])
theorem D8 (s:List Int) (f0:List (List Int)) (v:AV) (O:List (List AV)) (h:H7 s f0 Sp Fo So (fun r O'=>r=v/\O'=O)):Sp 115 [.slc 3 (List.map (AV.int .i64) s),.fn 89 [] [.ref 0 0]] [[.slc 3 (List.map (fun x=>.slc 3 (List.map (AV.int .i64) x)) f0)]] v O :=
 yj (w:=⟨[],[],[89],[],[]⟩) (k:=0) (keep:=⟨[0,1,4,5,7,8,9,16],[⟨2,[(8,iN 0)],[],[(1000000,.agg [.slc 3 []])],[],[],[]⟩],[],[]⟩) (boxes:=[⟨32,false,[.slc 3 (List.map (fun x=>.slc 3 (List.map (AV.int .i64) x)) f0)]⟩]) mixed (by exact trivial) Tryz.func115 Tryz.call115 rfl rfl rfl (Nat.le_of_ble_eq_true rfl) (by kernel_rfl) h
theorem Dm (s:List Int) (v:List (List Int)) (hl:s.length<=4611686018427387904):Sp 115 [.slc 3 (yo s),.fn 89 [] [.ref 0 0]] [[.slc 3 (yC v)]] (.int .i64 (yI (Yx v) 0 s)) [[.slc 3 (yC v)]]:=D8 s v _ _ (by
 unfold H7;refine⟨fun m vs=>∃k:Nat,vs=[.int .i64 k,.agg [.slc 3 (yC v)]]/\k<=s.length/\m=s.length-k/\yI (Yx v) k (s.drop k)=yI (Yx v) 0 s,⟨_,0,rfl,by omega,rfl,rfl⟩,?_⟩;rintro m n es ⟨k,hk,hle,rfl,hn⟩;cases hk;rw[List.length_map];refine⟨fun h3=>?_,fun h3=>⟨?_,by trivial⟩⟩
 ·have h3:k<s.length:=by have:=zt_ h3;omega
  have hat:=qE (f:=Yx v) (List.getElem?_eq_getElem h3);refine⟨_,⟨by omega,by trivial,wC h3⟩,_,c89 s[k] v,fun h4=>⟨?_,by trivial⟩,fun h4=>⟨_,(by omega:s.length-(k+1)<s.length-k),k+1,by rw[yx (by omega)],by omega,rfl,?_⟩⟩
  ·rw[<- hn,hat,h4];rfl
  ·rw[<- hn,hat,h4];rfl
 ·have:k=s.length:=by have:=zf_ h3;omega
  rw[<- hn,this,List.drop_length];rfl)
def za1 (s:List Int) (f0:List (List Int)) (S:SpecF) (_Fr:FreshF) (_Sq:SeqF) (Q:ym):Prop :=
 ∃n0,S 115 [AV.slc 3 (List.map (AV.int i64) s),AV.fn (89:FuncId) [] [AV.ref 0 0]] [[AV.slc 3 (List.map (fun x=>AV.slc 3 (List.map (AV.int i64) x)) f0)]] (iN n0) [[AV.slc 3 (List.map (fun x=>AV.slc 3 (List.map (AV.int i64) x)) f0)]]/\Q (.bool (decide (n0>=0))) [[AV.slc 3 (List.map (fun x=>AV.slc 3 (List.map (AV.int i64) x)) f0)]]
theorem zc4 (s:List Int) (f0:List (List Int)) (v:AV) (O:List (List AV)) (h:za1 s f0 Sp Fo So (fun r O'=>r=v/\O'=O)):Sp 73 [.slc 3 (List.map (AV.int .i64) s),.fn 89 [] [.ref 0 0]] [[.slc 3 (List.map (fun x=>.slc 3 (List.map (AV.int .i64) x)) f0)]] v O :=
 yj (w:=⟨[],[],[115],[],[]⟩) (k:=0) (keep:=⟨[0,1,4],[],[],[]⟩) (boxes:=[⟨32,false,[.slc 3 (List.map (fun x=>.slc 3 (List.map (AV.int .i64) x)) f0)]⟩]) mixed (by exact trivial) Tryz.func73 Tryz.call73 rfl rfl rfl (Nat.le_of_ble_eq_true rfl) (by kernel_rfl) h
theorem zbI (s:List Int) (v:List (List Int)) (hl:s.length<=4611686018427387904):Sp 73 [.slc 3 (yo s),.fn 89 [] [.ref 0 0]] [[.slc 3 (yC v)]] (.bool (s.any (Yx v))) [[.slc 3 (yC v)]]:=zc4 s v _ _ ⟨_,Dm s v hl,by rw[qk],by trivial⟩
def H8 (s:List Int) (S:SpecF) (_Fr:FreshF) (_Sq:SeqF) (Q:ym):Prop :=
 ∃(I0:Nat->List AV->Prop),(∃m2,I0 m2 [iN 0])/\∀(m2:Nat) (n3:Int),I0 m2 [iN n3]->(decide (n3<(↑(List.map (AV.int i64) s).length:Int))=true->∃n7,((0:Int)<=n3/\(1:Nat)=(1:Nat)/\(List.map (AV.int i64) s)[n3.toNat]? = some (iN n7))/\∃b9,S 91 [iN n7] [] (.bool b9) []/\(b9=true->Q (iN n3) [])/\(b9=false->∃k13,k13<m2/\I0 k13 [iN (wrap i64 (n3+1))]))/\(decide (n3<(↑(List.map (AV.int i64) s).length:Int))=false->Q (iN (-1:Int)) [])
theorem D9 (s:List Int) (v:AV) (O:List (List AV)) (h:H8 s Sp Fo So (fun r O'=>r=v/\O'=O)):Sp 115 [.slc 3 (List.map (AV.int .i64) s),.fn 91 [] []] [] v O :=
 yj (w:=⟨[],[],[91],[],[]⟩) (k:=0) (keep:=⟨[0,1,4,5,7,8,9,16],[⟨2,[(8,iN 0)],[],[],[],[],[]⟩],[],[]⟩) (boxes:=[]) mixed (by exact trivial) Tryz.func115 Tryz.call115 rfl rfl rfl (Nat.le_of_ble_eq_true rfl) (by kernel_rfl) h
theorem Dn (s:List Int) (hl:s.length<=4611686018427387904):Sp 115 [.slc 3 (yo s),.fn 91 [] []] [] (.int .i64 (yI XB 0 s)) []:=D9 s _ _ (by
 unfold H8;refine⟨fun m vs=>∃k:Nat,vs=[.int .i64 k]/\k<=s.length/\m=s.length-k/\yI XB k (s.drop k)=yI XB 0 s,⟨_,0,rfl,by omega,rfl,rfl⟩,?_⟩;rintro m n ⟨k,hk,hle,rfl,hn⟩;cases hk;rw[List.length_map];refine⟨fun h3=>?_,fun h3=>⟨?_,by trivial⟩⟩
 ·have h3:k<s.length:=by have:=zt_ h3;omega
  have hat:=qE (f:=XB) (List.getElem?_eq_getElem h3);refine⟨_,⟨by omega,by trivial,wC h3⟩,_,c91 s[k],fun h4=>⟨?_,by trivial⟩,fun h4=>⟨_,(by omega:s.length-(k+1)<s.length-k),k+1,by rw[yx (by omega)],by omega,rfl,?_⟩⟩
  ·rw[<- hn,hat,h4];rfl
  ·rw[<- hn,hat,h4];rfl
 ·have:k=s.length:=by have:=zf_ h3;omega
  rw[<- hn,this,List.drop_length];rfl)
def za2 (s:List Int) (S:SpecF) (_Fr:FreshF) (_Sq:SeqF) (Q:ym):Prop :=
 ∃n0,S 115 [AV.slc 3 (List.map (AV.int i64) s),AV.fn (91:FuncId) [] []] [] (iN n0) []/\Q (.bool (decide (n0>=0))) []
theorem zc5 (s:List Int) (v:AV) (O:List (List AV)) (h:za2 s Sp Fo So (fun r O'=>r=v/\O'=O)):Sp 73 [.slc 3 (List.map (AV.int .i64) s),.fn 91 [] []] [] v O :=
 yj (w:=⟨[],[],[115],[],[]⟩) (k:=0) (keep:=⟨[0,1,4],[],[],[]⟩) (boxes:=[]) mixed (by exact trivial) Tryz.func73 Tryz.call73 rfl rfl rfl (Nat.le_of_ble_eq_true rfl) (by kernel_rfl) h
theorem zbJ (s:List Int) (hl:s.length<=4611686018427387904):Sp 73 [.slc 3 (yo s),.fn 91 [] []] [] (.bool (s.any XB)) []:=zc5 s _ _ ⟨_,Dn s hl,by rw[qk],by trivial⟩
def Ga (s f0:List (List Int)) (S:SpecF) (_Fr:FreshF) (_Sq:SeqF) (Q:ym):Prop :=
 ∃(I0:Nat->List AV->Prop),(∃m2,I0 m2 [iN 0,.agg [AV.slc 3 (List.map (fun x=>AV.slc 3 (List.map (AV.int i64) x)) f0)]])/\∀(m2:Nat) (n3:Int) (es4:List AV),I0 m2 [iN n3,.agg [AV.slc 3 es4]]->(decide (n3<(↑(List.map (fun x=>AV.slc 3 (List.map (AV.int i64) x)) s).length:Int))=true->∃es8,((0:Int)<=n3/\(1:Nat)=(1:Nat)/\(List.map (fun x=>AV.slc 3 (List.map (AV.int i64) x)) s)[n3.toNat]? = some (.slc 3 es8))/\∃b10,S 90 [AV.slc 3 es8,.ref 0 0] [[AV.slc 3 es4]] (.bool b10) [[AV.slc 3 es4]]/\(b10=true->Q (iN n3) [[AV.slc 3 es4]])/\(b10=false->∃k14,k14<m2/\I0 k14 [iN (wrap i64 (n3+1)),.agg [AV.slc 3 es4]]))/\(decide (n3<(↑(List.map (fun x=>AV.slc 3 (List.map (AV.int i64) x)) s).length:Int))=false->Q (iN (-1:Int)) [[AV.slc 3 es4]])
theorem zab (s:List (List Int)) (f0:List (List Int)) (v:AV) (O:List (List AV)) (h:Ga s f0 Sp Fo So (fun r O'=>r=v/\O'=O)):Sp 121 [.slc 3 (List.map (fun x=>.slc 3 (List.map (AV.int .i64) x)) s),.fn 90 [] [.ref 0 0]] [[.slc 3 (List.map (fun x=>.slc 3 (List.map (AV.int .i64) x)) f0)]] v O :=
 yj (w:=⟨[],[],[90],[],[]⟩) (k:=0) (keep:=⟨[0,1,4,5,7,8,9,16],[⟨2,[(8,iN 0)],[],[(1000000,.agg [.slc 3 []])],[],[],[]⟩],[],[]⟩) (boxes:=[⟨32,false,[.slc 3 (List.map (fun x=>.slc 3 (List.map (AV.int .i64) x)) f0)]⟩]) mixed (by exact trivial) Tryz.func121 Tryz.call121 rfl rfl rfl (Nat.le_of_ble_eq_true rfl) (by kernel_rfl) h
theorem Dr (s:List (List Int)) (hl:s.length<=4611686018427387904):Sp 121 [.slc 3 (yC s),.fn 90 [] [.ref 0 0]] [[.slc 3 (yC s)]] (.int .i64 (yI (vd s) 0 s)) [[.slc 3 (yC s)]]:=zab s s _ _ (by
 unfold Ga;refine⟨fun m vs=>∃k:Nat,vs=[.int .i64 k,.agg [.slc 3 (yC s)]]/\k<=s.length/\m=s.length-k/\yI (vd s) k (s.drop k)=yI (vd s) 0 s,⟨_,0,rfl,by omega,rfl,rfl⟩,?_⟩;rintro m n es ⟨k,hk,hle,rfl,hn⟩;cases hk;rw[List.length_map];refine⟨fun h3=>?_,fun h3=>⟨?_,by trivial⟩⟩
 ·have h3:k<s.length:=by have:=zt_ h3;omega
  have hat:=qE (f:=vd s) (List.getElem?_eq_getElem h3);refine⟨_,⟨by omega,by trivial,jP h3⟩,_,c90 s[k] s (by omega),fun h4=>⟨?_,by trivial⟩,fun h4=>⟨_,(by omega:s.length-(k+1)<s.length-k),k+1,by rw[yx (by omega)],by omega,rfl,?_⟩⟩
  ·rw[<- hn,hat,h4];rfl
  ·rw[<- hn,hat,h4];rfl
 ·have:k=s.length:=by have:=zf_ h3;omega
  rw[<- hn,this,List.drop_length];rfl)
def za4 (s f0:List (List Int)) (S:SpecF) (_Fr:FreshF) (_Sq:SeqF) (Q:ym):Prop :=
 ∃n0,S 121 [AV.slc 3 (List.map (fun x=>AV.slc 3 (List.map (AV.int i64) x)) s),AV.fn (90:FuncId) [] [AV.ref 0 0]] [[AV.slc 3 (List.map (fun x=>AV.slc 3 (List.map (AV.int i64) x)) f0)]] (iN n0) [[AV.slc 3 (List.map (fun x=>AV.slc 3 (List.map (AV.int i64) x)) f0)]]/\Q (.bool (decide (n0>=0))) [[AV.slc 3 (List.map (fun x=>AV.slc 3 (List.map (AV.int i64) x)) f0)]]
theorem zc8 (s:List (List Int)) (f0:List (List Int)) (v:AV) (O:List (List AV)) (h:za4 s f0 Sp Fo So (fun r O'=>r=v/\O'=O)):Sp 93 [.slc 3 (List.map (fun x=>.slc 3 (List.map (AV.int .i64) x)) s),.fn 90 [] [.ref 0 0]] [[.slc 3 (List.map (fun x=>.slc 3 (List.map (AV.int .i64) x)) f0)]] v O :=
 yj (w:=⟨[],[],[121],[],[]⟩) (k:=0) (keep:=⟨[0,1,4],[],[],[]⟩) (boxes:=[⟨32,false,[.slc 3 (List.map (fun x=>.slc 3 (List.map (AV.int .i64) x)) f0)]⟩]) mixed (by exact trivial) Tryz.func93 Tryz.call93 rfl rfl rfl (Nat.le_of_ble_eq_true rfl) (by kernel_rfl) h
theorem zbL (s:List (List Int)) (hl:s.length<=4611686018427387904):Sp 93 [.slc 3 (yC s),.fn 90 [] [.ref 0 0]] [[.slc 3 (yC s)]] (.bool (s.any (vd s))) [[.slc 3 (yC s)]]:=zc8 s s _ _ ⟨_,Dr s hl,by rw[qk],by trivial⟩
def R92 (l:List Int) (_S:SpecF) (Fr:FreshF) (Sq:SeqF) (Q:ym):Prop :=
 ∃xs0,Sq (107:Nat) [AV.ref 0 0] [[AV.slc 3 (List.map (AV.int i64) l)]] xs0/\(∀(x3:List AV),x3∈xs0->qZ [iN 0] x3=true/\AV.zi x3=true)/\∃(I3:Nat->List AV->Prop),I3 (0:Nat) [AV.slc 3 []]/\(∀(i6:Nat) (n7:Int),xs0[i6]? = some [iN n7]->∀(es9:List AV),I3 i6 [AV.slc 3 es9]->yA (1:Nat) [iN n7]/\((List.flatMap AV.cells es9).length=es9.length*Tryz.prog.cellsOf (3:Nat)/\(es9.length+1+(512:Nat))*41<=(1125899906842624:Nat)/\yw [iN n7]=true/\yw (List.flatMap AV.cells es9)=true)/\yn [AV.undef]/\∃es14,(es14.length=es9.length+1/\List.flatMap AV.cells es14=List.flatMap AV.cells es9++[iN n7])/\I3 (i6+1) [AV.slc 3 es14])/\∀(es6:List AV),I3 xs0.length [AV.slc 3 es6]->∃zs8 zs'9,(List.flatMap AV.cells es6=List.map (AV.int i64) zs8/\zs8.length=es6.length/\(0:Nat)<es6.length/\zs'9.length=es6.length/\Fr (106:Nat) [AV.tup (List.map (AV.int i64) zs8)] (0:Nat) (List.map (AV.int i64) zs'9))/\∃m11,m11<=es6.length/\∃zs13 zs'14,(List.map (AV.int i64) zs'9=List.map (AV.int i64) zs13/\zs13.length=es6.length/\(0:Nat)<es6.length/\zs'14.length=es6.length/\Fr (56:Nat) [AV.tup (List.map (AV.int i64) zs13)] (m11+1) (List.map (AV.int i64) zs'14))/\Q (.bool (decide ((↑m11:Int)<(↑(List.map (AV.int i64) l).length:Int)))) []
theorem s92 (l:List Int) (v:AV) (O:List (List AV)) (h:R92 l Sp Fo So (fun r O'=>r=v/\O'=O)):Sp 92 [.slc 3 (List.map (AV.int .i64) l)] [] v O :=
 yj (w:=⟨[106,56],[],[],[(54,⟨[0,2,3],[],[],[]⟩),(105,⟨[0,2],[],[],[]⟩),(127,⟨[0,1,2,4,5,6,7],[⟨3,[],[],[],[(2,0,3)],[iN 0],[]⟩],[],[(2,1)]⟩),(55,⟨[0,1,2],[],[],[]⟩)],[]⟩) (k:=4) (keep:=⟨[0,2],[],[],[]⟩) (boxes:=[]) mixed (by exact⟨Tryz.call54,⟨Tryz.call105,⟨Tryz.call127,⟨Tryz.call55,trivial⟩⟩⟩⟩) Tryz.func92 Tryz.call92 rfl rfl rfl (Nat.le_of_ble_eq_true rfl) (by kernel_rfl) h
theorem NV (l:List Int) (hl:l.length<=17592186043904) (hne:l≠[]):Sp 92 [.slc 3 (yo l)] [] (.bool (k9 l)) []:=s92 l _ _ (by
 unfold R92;have hpos:0<l.length:=List.length_pos_iff.2 hne;refine⟨_,uf l (by omega),fun x hx=>?_,fun i vs=>vs=[.slc 3 (yo (l.take i))],rfl,fun i n hx es hI=>?_,fun es hI=>?_⟩
 ·obtain ⟨y,_,rfl⟩:=List.mem_map.1 hx;exact⟨rfl,rfl⟩
 ·cases hI;obtain ⟨h1,h2⟩:=Oj hx;have hs:=Sj (l.take i) (by rw[List.length_take];omega) n;refine⟨hs.1,hs.2,?_⟩;repeat (first | refine And.intro rfl ?_ | refine And.intro trivial ?_)
  exact⟨yo (l.take (i+1)),⟨by rw[h2,List.length_append];rfl,by rw[h2,List.flatMap_append];rfl⟩,rfl⟩
 ·rw[List.length_map,List.take_length] at hI;cases hI;have hsl:=vB l;have hcl:=uZ (qW l);refine⟨l,qW l,⟨by rw[kT yL];rfl,(yz l).symm,by rw[yz];exact hpos,by rw[yz];exact hsl,MC l (by omega)⟩,(Go.Lib.compact (qW l)).length,by rw[yz,<- hsl];exact YH _,qW l,TY (qW l),⟨rfl,by rw[yz];exact hsl,by rw[yz];exact hpos,by rw[yz,hcl];exact hsl,MB (qW l) (by omega)⟩,?_⟩;rw[List.length_map];have hdd:decide (((Go.Lib.compact (qW l)).length:Int)<(l.length:Int))=k9 l:=by unfold k9;rw[Bool.eq_iff_iff,decide_eq_true_eq,decide_eq_true_eq];omega
  rw[hdd];exact⟨rfl,rfl⟩)
def Dc (_k:Int) (S:SpecF) (_Fr:FreshF) (Sq:SeqF) (Q:ym):Prop :=
 ∃xs0,Sq (107:Nat) [AV.ref 0 0] [[AV.slc 3 []]] xs0/\(∀(x3:List AV),x3∈xs0->qZ [iN 0] x3=true/\AV.zi x3=true)/\∃(I3:Nat->List AV->Prop),I3 (0:Nat) [AV.slc 3 []]/\(∀(i6:Nat) (n7:Int),xs0[i6]? = some [iN n7]->∀(es9:List AV),I3 i6 [AV.slc 3 es9]->yA (1:Nat) [iN n7]/\((List.flatMap AV.cells es9).length=es9.length*1/\(es9.length+1+(512:Nat))*41<=(1125899906842624:Nat)/\yw [iN n7]=true/\yw (List.flatMap AV.cells es9)=true)/\yn [AV.undef]/\∃es14,(es14.length=es9.length+1/\List.flatMap AV.cells es14=List.flatMap AV.cells es9++[iN n7])/\I3 (i6+1) [AV.slc 3 es14])/\∀(es6:List AV),I3 xs0.length [AV.slc 3 es6]->((0:Nat)+es6.length*1<=(List.flatMap AV.cells es6).length/\yw (List.flatMap AV.cells es6)=true)/\S 106 [AV.slc 3 (chunks (1:Nat) (yp Tryz.prog (3:Nat)) es6.length (List.drop (0:Nat) (List.flatMap AV.cells es6)))] [] (.tup []) []/\((0:Nat)+es6.length*1<=(List.flatMap AV.cells es6).length/\yw (List.flatMap AV.cells es6)=true)/\∃es11,S 56 [AV.slc 3 (chunks (1:Nat) (yp Tryz.prog (3:Nat)) es6.length (List.drop (0:Nat) (List.flatMap AV.cells es6)))] [] (.slc 3 es11) []/\Q (.bool (decide ((↑es11.length:Int)<(↑([]:List AV).length:Int)))) []
theorem zc6 (k:Int) (v:AV) (O:List (List AV)) (h:Dc k Sp Fo So (fun r O'=>r=v/\O'=O)):Sp 92 [.slc 3 []] [] v O :=
 yj (w:=⟨[],[],[],[(54,⟨[0,2,3],[],[],[]⟩),(105,⟨[0,2],[],[],[]⟩),(127,⟨[0,1,2,4,5,6,7],[⟨3,[],[],[],[(2,0,3)],[iN 0],[]⟩],[],[(2,1)]⟩),(55,⟨[0,1,2],[],[],[]⟩)],[]⟩) (k:=4) (keep:=⟨[0,2],[],[],[]⟩) (boxes:=[]) mixed (by exact⟨Tryz.call54,⟨Tryz.call105,⟨Tryz.call127,⟨Tryz.call55,trivial⟩⟩⟩⟩) Tryz.func92 Tryz.call92 rfl rfl rfl (Nat.le_of_ble_eq_true rfl) (by kernel_rfl) h
theorem NU:Sp 92 [.slc 3 []] [] (.bool (k9 [])) []:=zc6 0 _ _ (by
 unfold Dc;refine⟨_,uf [] (Nat.zero_le _),fun x hx=>(by cases hx),fun i vs=>vs=[.slc 3 []],rfl,fun i n hx=>(by cases hx),fun es hI=>?_⟩;cases hI;refine⟨⟨by simp,rfl⟩,?_⟩;have e:∀P,P=3->chunks 1 (yp Tryz.prog P) ([]:List AV).length (List.drop 0 (List.flatMap AV.cells []))=[]:=fun P hP=>by subst hP;rw[show yp Tryz.prog 3=false from S1];rfl
 rw[e _ rfl];refine⟨SQ,⟨by simp,rfl⟩,_,Xl,?_,by trivial⟩;have hdd:k9 []=false:=by decide +kernel
 rw[hdd];rfl)
theorem Iu (l:List Int) (hl:l.length<=17592186043904):Sp 92 [.slc 3 (yo l)] [] (.bool (k9 l)) []:=by
 by_cases h:l=[]
 ·subst h;exact NU
 ·exact NV l hl h
def Gb (s:List (List Int)) (S:SpecF) (_Fr:FreshF) (_Sq:SeqF) (Q:ym):Prop :=
 ∃(I0:Nat->List AV->Prop),(∃m2,I0 m2 [iN 0])/\∀(m2:Nat) (n3:Int),I0 m2 [iN n3]->(decide (n3<(↑(List.map (fun x=>AV.slc 3 (List.map (AV.int i64) x)) s).length:Int))=true->∃es7,((0:Int)<=n3/\(1:Nat)=(1:Nat)/\(List.map (fun x=>AV.slc 3 (List.map (AV.int i64) x)) s)[n3.toNat]? = some (.slc 3 es7))/\∃b9,S 92 [AV.slc 3 es7] [] (.bool b9) []/\(b9=true->Q (iN n3) [])/\(b9=false->∃k13,k13<m2/\I0 k13 [iN (wrap i64 (n3+1))]))/\(decide (n3<(↑(List.map (fun x=>AV.slc 3 (List.map (AV.int i64) x)) s).length:Int))=false->Q (iN (-1:Int)) [])
theorem zac (s:List (List Int)) (v:AV) (O:List (List AV)) (h:Gb s Sp Fo So (fun r O'=>r=v/\O'=O)):Sp 121 [.slc 3 (List.map (fun x=>.slc 3 (List.map (AV.int .i64) x)) s),.fn 92 [] []] [] v O :=
 yj (w:=⟨[],[],[92],[],[]⟩) (k:=0) (keep:=⟨[0,1,4,5,7,8,9,16],[⟨2,[(8,iN 0)],[],[],[],[],[]⟩],[],[]⟩) (boxes:=[]) mixed (by exact trivial) Tryz.func121 Tryz.call121 rfl rfl rfl (Nat.le_of_ble_eq_true rfl) (by kernel_rfl) h
theorem Dt (s:List (List Int)) (hl:s.length<=4611686018427387904) (hs:∀l∈s,l.length<=17592186043904):Sp 121 [.slc 3 (yC s),.fn 92 [] []] [] (.int .i64 (yI k9 0 s)) []:=zac s _ _ (by
 unfold Gb;refine⟨fun m vs=>∃k:Nat,vs=[.int .i64 k]/\k<=s.length/\m=s.length-k/\yI k9 k (s.drop k)=yI k9 0 s,⟨_,0,rfl,by omega,rfl,rfl⟩,?_⟩;rintro m n ⟨k,hk,hle,rfl,hn⟩;cases hk;rw[List.length_map];refine⟨fun h3=>?_,fun h3=>⟨?_,by trivial⟩⟩
 ·have h3:k<s.length:=by have:=zt_ h3;omega
  have hat:=qE (f:=k9) (List.getElem?_eq_getElem h3);refine⟨_,⟨by omega,by trivial,jP h3⟩,_,Iu s[k] (hs _ (List.getElem_mem h3)),fun h4=>⟨?_,by trivial⟩,fun h4=>⟨_,(by omega:s.length-(k+1)<s.length-k),k+1,by rw[yx (by omega)],by omega,rfl,?_⟩⟩
  ·rw[<- hn,hat,h4];rfl
  ·rw[<- hn,hat,h4];rfl
 ·have:k=s.length:=by have:=zf_ h3;omega
  rw[<- hn,this,List.drop_length];rfl)
def za5 (s:List (List Int)) (S:SpecF) (_Fr:FreshF) (_Sq:SeqF) (Q:ym):Prop :=
 ∃n0,S 121 [AV.slc 3 (List.map (fun x=>AV.slc 3 (List.map (AV.int i64) x)) s),AV.fn (92:FuncId) [] []] [] (iN n0) []/\Q (.bool (decide (n0>=0))) []
theorem zc9 (s:List (List Int)) (v:AV) (O:List (List AV)) (h:za5 s Sp Fo So (fun r O'=>r=v/\O'=O)):Sp 93 [.slc 3 (List.map (fun x=>.slc 3 (List.map (AV.int .i64) x)) s),.fn 92 [] []] [] v O :=
 yj (w:=⟨[],[],[121],[],[]⟩) (k:=0) (keep:=⟨[0,1,4],[],[],[]⟩) (boxes:=[]) mixed (by exact trivial) Tryz.func93 Tryz.call93 rfl rfl rfl (Nat.le_of_ble_eq_true rfl) (by kernel_rfl) h
theorem zbM (s:List (List Int)) (hl:s.length<=4611686018427387904) (hs:∀l∈s,l.length<=17592186043904):Sp 93 [.slc 3 (yC s),.fn 92 [] []] [] (.bool (s.any k9)) []:=zc9 s _ _ ⟨_,Dt s hl hs,by rw[qk],by trivial⟩
def vX (f:Int->Int->Int) (a b:List Int) (k:Nat):List Int:=List.zipWith f (a.take k) (b.take k)++a.drop k
theorem WX {f:Int->Int->Int} {a b:List Int} {k:Nat} (h:a.length=b.length) (hk:k<=a.length):(vX f a b k).length=a.length:=by
 unfold vX;rw[List.length_append,List.length_zipWith,List.length_take,List.length_take,List.length_drop];omega
theorem WW {f:Int->Int->Int} {a b:List Int} {k j:Nat} (h:a.length=b.length) (hk:k<=a.length) (hj:j<a.length):(vX f a b k)[j]? = some (if j<k then f (a.getD j 0) (b.getD j 0) else a.getD j 0):=by
 have ea:a[j]? = some (a.getD j 0):=by rw[List.getD_eq_getElem?_getD,List.getElem?_eq_getElem hj];rfl
 have eb:b[j]? = some (b.getD j 0):=by rw[List.getD_eq_getElem?_getD,List.getElem?_eq_getElem (by omega)];rfl
 unfold vX;by_cases hjk:j<k
 ·rw[List.getElem?_append_left (by rw[List.length_zipWith,List.length_take,List.length_take];omega),List.getElem?_zipWith,List.getElem?_take,List.getElem?_take,if_pos hjk,if_pos hjk,if_pos hjk,ea,eb]
 ·rw[List.getElem?_append_right (by rw[List.length_zipWith,List.length_take,List.length_take];omega),List.length_zipWith,List.length_take,List.length_take,List.getElem?_drop,if_neg hjk,show k+(j-min (min k a.length) (min k b.length))=j by omega,ea]
theorem MA {f:Int->Int->Int} {a b:List Int} {k:Nat} (h:a.length=b.length) (hk:k<a.length):(vX f a b k).set k (f (a.getD k 0) (b.getD k 0))=vX f a b (k+1):=by
 have l1:=WX (f:=f) h (Nat.le_of_lt hk);have l2:=WX (f:=f) (k:=k+1) h hk;refine List.ext_getElem? fun j=>?_
 rw[List.getElem?_set,l1];by_cases hj:j<a.length
 ·rw[WW h hk hj];by_cases hkj:k=j
  ·subst hkj;rw[if_pos rfl,if_pos hj,if_pos (by omega)]
  ·rw[if_neg hkj,WW h (Nat.le_of_lt hk) hj];by_cases h2:j<k
   ·rw[if_pos h2,if_pos (by omega)]
   ·rw[if_neg h2,if_neg (by omega)]
 ·rw[if_neg (by omega),List.getElem?_eq_none (by omega),List.getElem?_eq_none (by omega)]
theorem PU {f:Int->Int->Int} {a b:List Int}:vX f a b 0=a:=rfl
theorem PT {f:Int->Int->Int} {a b:List Int} (h:a.length=b.length):vX f a b a.length=List.zipWith f a b:=by
 unfold vX;rw[List.take_length,h,List.take_length,<- h,List.drop_length,List.append_nil]
theorem xm (l:List Int):AV.za (yo l)=yo l:=by
 rw[PY];unfold yo;rw[List.map_map];rfl
theorem X5 {l:List Int} {k:Nat} {x:Int} (h:l[k]? = some x):Option.map AV.norm (qT Tryz.prog 3 (yo l) (0+((k:Nat):Int).toNat*1))=some (.int .i64 x):=by
 unfold qT;rw[show Tryz.prog.underlying 3=some (.int .i64) by kernel_rfl,Int.toNat_natCast,show 0+k*1=k by omega];dsimp only;unfold yo;rw[List.getElem?_map,h];rfl
theorem PD {l:List Int} {k:Nat} {x:Int} (h:k<l.length):setCells (yo l) (0+((k:Nat):Int).toNat*1) [AV.int .i64 x]=yo (l.set k x):=by
 unfold setCells yo;rw[Int.toNat_natCast,show 0+k*1=k by omega,List.map_set,List.set_eq_take_append_cons_drop,if_pos (by rw[List.length_map];exact h)];rfl
theorem Sk (n:Nat):AV.za (List.replicate ((n:Nat):Int).toNat [AV.int .i64 0]).flatten=yo (List.replicate n 0):=by
 rw[Int.toNat_natCast,PY];unfold yo;induction n with
 |zero=>rfl
 |succ n ih=>rw[List.replicate_succ,List.flatten_cons,List.map_append,ih,List.replicate_succ,List.map_cons];rfl
def Ui (a b:Int):Int:=wrap i64 (a+b)
def uQ (a b:Int):Int:=if b>a then b else a
def vY (needs:List (List Int)) (n:Int):List Int:=needs.getD n.toNat []
def QO (needs:List (List Int)) (z set:List Int):List Int:=set.foldl (fun a n=>List.zipWith Ui a (vY needs n)) z
def xb (needs:List (List Int)) (z:List Int) (sets:List (List Int)) (e:List Int):List Int:=sets.foldl (fun e s=>List.zipWith uQ e (QO needs z s)) e
def jB (needs:List (List Int)):List Int:=List.replicate (needs.getD 0 []).length 0
def XT (needs sets:List (List Int)):List Int × Int :=
 if sets.length>200 then ([],3) else if needs.length>100 then ([],3) else if needs.any (vd needs) then ([],2) else if needs.flatten.any XB then ([],7) else if sets.flatten.any (Yx needs) then ([],4) else if sets.any k9 then ([],5) else
 if needs.length=0 then ([],0) else (xb needs (jB needs) sets (jB needs),0)
structure W4 (needs sets:List (List Int)):Prop where
 same:∀l∈needs,l.length=(needs.getD 0 []).length
 four:(needs.getD 0 []).length<=4
 hundred:needs.length<=100
 many:∀l∈needs,∀n∈l,0<=n/\n<=20
 sl:sets.length<=200
 one:∀s∈sets,∀n∈s,0<=n/\n<needs.length
 dup:∀s∈sets,k9 s=false
theorem IJ {needs sets:List (List Int)} (h0:¬ sets.length>200) (h1:¬ needs.length>100) (h2:needs.any (vd needs)=false) (h3:needs.flatten.any XB=false) (h4:sets.flatten.any (Yx needs)=false) (h5:sets.any k9=false) (h6:needs.length≠0):W4 needs sets:=by
 have other:∀l∈needs,l.length=(needs.getD 0 []).length/\l.length<=4:=fun l hl=>by
  have:=List.any_eq_false.1 h2 l hl;unfold vd at this;by_cases he:l.length≠(needs.getD 0 []).length
  ·rw[if_pos he] at this;exact absurd rfl this
  ·rw[if_neg he] at this;have:(l.length:Int)<=4:=by simpa using this
   exact⟨by omega,by omega⟩
 have h0':needs.getD 0 []∈needs:=by
  rw[List.getD_eq_getElem?_getD,List.getElem?_eq_getElem (show 0<needs.length by omega)];exact List.getElem_mem _
 refine⟨fun l hl=>(other l hl).1,(other _ h0').2,by omega,fun l hl n hn=>?_,by omega,fun s hs n hn=>?_,fun s hs=>by simpa using List.any_eq_false.1 h5 s hs⟩
 ·have:=List.any_eq_false.1 h3 n (List.mem_flatten.2 ⟨l,hl,hn⟩);unfold XB at this;exact y8.1 (by simpa using this)
 ·have:=List.any_eq_false.1 h4 n (List.mem_flatten.2 ⟨s,hs,hn⟩);unfold Yx at this;rw[zw6 (by omega)] at this;have:=y8.1 (by simpa using this);omega
theorem W4.need {needs sets:List (List Int)} (h:W4 needs sets) {n:Int} (h0:0<=n) (h1:n<needs.length):needs[n.toNat]? = some (vY needs n)/\vY needs n∈needs/\(vY needs n).length=(needs.getD 0 []).length:=by
 have hl:n.toNat<needs.length:=by omega
 have e:vY needs n=needs[n.toNat]:=by unfold vY;rw[List.getD_eq_getElem?_getD,List.getElem?_eq_getElem hl];rfl
 rw[e];exact⟨List.getElem?_eq_getElem hl,List.getElem_mem hl,h.same _ (List.getElem_mem hl)⟩
theorem ML {needs sets:List (List Int)} (h:W4 needs sets) {z:List Int} (hz:z.length=(needs.getD 0 []).length):∀s:List Int,(∀n∈s,0<=n/\n<needs.length)->(QO needs z s).length=(needs.getD 0 []).length:=by
 intro s;induction s generalizing z with
 |nil=>intro _;exact hz
 |cons n s ih =>
  intro hs;obtain ⟨n0,n1⟩:=hs n List.mem_cons_self;have:=(h.need n0 n1).2.2;exact ih (by rw[List.length_zipWith];omega) fun m hm=>hs m (List.mem_cons_of_mem _ hm)
theorem O2 {needs sets:List (List Int)} (h:W4 needs sets):∀(S:List (List Int)) (e:List Int),(∀s∈S,s∈sets)->e.length=(needs.getD 0 []).length->(xb needs (jB needs) S e).length=(needs.getD 0 []).length:=by
 intro S;induction S with
 |nil=>intro e _ he;exact he
 |cons s S ih =>
  intro e hS he;have:=ML h (z:=jB needs) (by unfold jB;rw[List.length_replicate]) s (h.one s (hS s List.mem_cons_self));exact ih _ (fun m hm=>hS m (List.mem_cons_of_mem _ hm)) (by rw[List.length_zipWith];omega)
theorem Is {needs:List (List Int)} {z s:List Int} {p:Nat} (h:p<s.length):QO needs z (s.take (p+1))=List.zipWith Ui (QO needs z (s.take p)) (vY needs s[p]):=by
 unfold QO;rw[List.take_add_one,List.getElem?_eq_getElem h,List.foldl_append];rfl
theorem Pg {needs:List (List Int)} {z:List Int} {S:List (List Int)} {e:List Int} {p:Nat} (h:p<S.length):xb needs z (S.take (p+1)) e=List.zipWith uQ (xb needs z (S.take p) e) (QO needs z S[p]):=by
 unfold xb;rw[List.take_add_one,List.getElem?_eq_getElem h,List.foldl_append];rfl
theorem Je {l:List Int} {k:Nat} (h:k<l.length):l[k]? = some (l.getD k 0):=by rw[List.getD_eq_getElem?_getD,List.getElem?_eq_getElem h];rfl
def jZ (needs sets:List (List Int)):AV:=.tup [.slc 3 (yo (XT needs sets).1),.int .i64 (XT needs sets).2]
def R35 (needs sets:List (List Int)) (S:SpecF) (Fr:FreshF) (Sq:SeqF) (Q:ym):Prop :=
 ∃es0,S 88 [AV.slc 3 (List.map (fun x=>AV.slc 3 (List.map (AV.int i64) x)) sets)] [] (.slc 3 es0) []/\(decide ((↑(List.map (fun x=>AV.slc 3 (List.map (AV.int i64) x)) sets).length:Int)>(200:Int))=true->Q (.tup [AV.slc 3 [],iN 3]) [])/\(decide ((↑(List.map (fun x=>AV.slc 3 (List.map (AV.int i64) x)) sets).length:Int)>(200:Int))=false->(decide ((↑(List.map (fun x=>AV.slc 3 (List.map (AV.int i64) x)) needs).length:Int)>(100:Int))=true->Q (.tup [AV.slc 3 [],iN 3]) [])/\(decide ((↑(List.map (fun x=>AV.slc 3 (List.map (AV.int i64) x)) needs).length:Int)>(100:Int))=false->∃b6,S 93 [AV.slc 3 (List.map (fun x=>AV.slc 3 (List.map (AV.int i64) x)) needs),AV.fn (90:Nat) [] [AV.ref 0 0]] [[AV.slc 3 (List.map (fun x=>AV.slc 3 (List.map (AV.int i64) x)) needs)]] (.bool b6) [[AV.slc 3 (List.map (fun x=>AV.slc 3 (List.map (AV.int i64) x)) needs)]]/\(b6=true->Q (.tup [AV.slc 3 [],iN 2]) [])/\(b6=false->∃es10,S 88 [AV.slc 3 (List.map (fun x=>AV.slc 3 (List.map (AV.int i64) x)) needs)] [] (.slc 3 es10) []/\∃b12,S 73 [AV.slc 3 es10,AV.fn (91:Nat) [] []] [] (.bool b12) []/\(b12=true->Q (.tup [AV.slc 3 [],iN 7]) [])/\(b12=false->∃b16,S 73 [AV.slc 3 es0,AV.fn (89:Nat) [] [AV.ref 0 0]] [[AV.slc 3 (List.map (fun x=>AV.slc 3 (List.map (AV.int i64) x)) needs)]] (.bool b16) [[AV.slc 3 (List.map (fun x=>AV.slc 3 (List.map (AV.int i64) x)) needs)]]/\(b16=true->Q (.tup [AV.slc 3 [],iN 4]) [])/\(b16=false->∃b20,S 93 [AV.slc 3 (List.map (fun x=>AV.slc 3 (List.map (AV.int i64) x)) sets),AV.fn (92:Nat) [] []] [] (.bool b20) []/\(b20=true->Q (.tup [AV.slc 3 [],iN 5]) [])/\(b20=false->(((↑(List.map (fun x=>AV.slc 3 (List.map (AV.int i64) x)) needs).length:Int) == (0:Int))=true->Q (.tup [AV.slc 3 [],iN 0]) [])/\(((↑(List.map (fun x=>AV.slc 3 (List.map (AV.int i64) x)) needs).length:Int) == (0:Int))=false->∃es26,((0:Int)<=(0:Int)/\(1:Nat)=(1:Nat)/\(List.map (fun x=>AV.slc 3 (List.map (AV.int i64) x)) needs)[(0:Nat)]? = some (.slc 3 es26))/\((0:Int)<=(↑es26.length:Int)/\(↑es26.length:Int)<=(↑es26.length:Int)/\((↑es26.length:Int)+(1:Int))*9<=(281474976710656:Int))/\∃(I29:Nat->List AV->Prop),(∃m31,I29 m31 [iN 0,.agg (AV.za (List.replicate (QH (XD (mkS Tryz.prog S Fr Sq { fr:=[],alts:=[],ro:=[(93:FuncId),(73:FuncId)] } (0:Nat)).frs (some (59:Nat))) (↑es26.length:Int) (↑es26.length:Int)) [iN 0]).flatten)])/\∀(m31:Nat) (n32:Int) (cs33:List AV),I29 m31 [iN n32,.agg cs33]->(decide (n32<(↑(List.map (fun x=>AV.slc 3 (List.map (AV.int i64) x)) sets).length:Int))=true->∃es37,((0:Int)<=n32/\(1:Nat)=(1:Nat)/\(List.map (fun x=>AV.slc 3 (List.map (AV.int i64) x)) sets)[n32.toNat]? = some (.slc 3 es37))/\((0:Int)<=(↑(↑es26.length:Int).toNat:Int)/\(↑(↑es26.length:Int).toNat:Int)<=(↑(↑es26.length:Int).toNat:Int)/\((↑(↑es26.length:Int).toNat:Int)+(1:Int))*9<=(281474976710656:Int))/\∃(I40:Nat->List AV->Prop),(∃m42,I40 m42 [iN 0,.agg (AV.za (List.replicate (QH (XD (mkS Tryz.prog S Fr Sq { fr:=[],alts:=[],ro:=[(93:FuncId),(73:FuncId)] } (0:Nat)).frs (some (68:Nat))) (↑(↑es26.length:Int).toNat:Int) (↑(↑es26.length:Int).toNat:Int)) [iN 0]).flatten)])/\∀(m42:Nat) (n43:Int) (cs44:List AV),I40 m42 [iN n43,.agg cs44]->(decide (n43<(↑es37.length:Int))=true->∃n48,((0:Int)<=n43/\(1:Nat)=(1:Nat)/\es37[n43.toNat]? = some (iN n48))/\∃es50,((0:Int)<=n48/\(1:Nat)=(1:Nat)/\(List.map (fun x=>AV.slc 3 (List.map (AV.int i64) x)) needs)[n48.toNat]? = some (.slc 3 es50))/\∃(I52:Nat->List AV->Prop),(∃m54,I52 m54 [iN 0,.agg (AV.za (AV.agg cs44).cells)])/\∀(m54:Nat) (n55:Int) (cs56:List AV),I52 m54 [iN n55,.agg cs56]->(decide (n55<(↑es50.length:Int))=true->∃n60,((0:Int)<=n55/\(1:Nat)=(1:Nat)/\es50[n55.toNat]? = some (iN n60))/\((0:Int)<=n55/\n55<(↑(↑(↑es26.length:Int).toNat:Int).toNat:Int)/\(1:Nat)=(1:Nat))/\∃n63,Option.map AV.norm (qT Tryz.prog (3:Nat) (AV.agg cs56).cells ((0:Nat)+n55.toNat*1))=some (iN n63)/\((0:Int)<=n55/\n55<(↑(↑(↑es26.length:Int).toNat:Int).toNat:Int)/\(1:Nat)=(1:Nat))/\(0:Nat)+n55.toNat*1+(1:Nat)<=(AV.agg cs56).cells.length/\yn [AV.slc 3 (List.map (fun x=>AV.slc 3 (List.map (AV.int i64) x)) needs)]/\(AV.agg cs33).cells=(AV.agg cs33).cells/\∃k69,k69<m54/\I52 k69 [iN (wrap i64 (n55+1)),.agg (AV.za (setCells (AV.agg cs56).cells ((0:Nat)+n55.toNat*1) [iN (wrap i64 (n63+n60))]))])/\(decide (n55<(↑es50.length:Int))=false->yn [AV.slc 3 (List.map (fun x=>AV.slc 3 (List.map (AV.int i64) x)) needs)]/\(AV.agg cs33).cells=(AV.agg cs33).cells/\∃k62,k62<m42/\I40 k62 [iN (wrap i64 (n43+1)),.agg (AV.za (AV.agg cs56).cells)]))/\(decide (n43<(↑es37.length:Int))=false->∃(I48:Nat->List AV->Prop),(∃m50,I48 m50 [iN 0,.agg (AV.za (AV.agg cs33).cells)])/\∀(m50:Nat) (n51:Int) (cs52:List AV),I48 m50 [iN n51,.agg cs52]->(decide (n51<(↑(↑(↑es26.length:Int).toNat:Int).toNat:Int))=true->((0:Int)<=n51/\n51<(↑(↑(↑es26.length:Int).toNat:Int).toNat:Int)/\(1:Nat)=(1:Nat))/\∃n57,Option.map AV.norm (qT Tryz.prog (3:Nat) (AV.agg cs44).cells ((0:Nat)+n51.toNat*1))=some (iN n57)/\((0:Int)<=n51/\n51<(↑(↑es26.length:Int).toNat:Int)/\(1:Nat)=(1:Nat))/\∃n60,Option.map AV.norm (qT Tryz.prog (3:Nat) (AV.agg cs52).cells ((0:Nat)+n51.toNat*1))=some (iN n60)/\((0:Int)<=n51/\n51<(↑(↑es26.length:Int).toNat:Int)/\(1:Nat)=(1:Nat))/\(0:Nat)+n51.toNat*1+(1:Nat)<=(AV.agg cs52).cells.length/\yn [AV.slc 3 (List.map (fun x=>AV.slc 3 (List.map (AV.int i64) x)) needs)]/\(AV.agg cs44).cells=(AV.agg cs44).cells/\∃k66,k66<m50/\I48 k66 [iN (wrap i64 (n51+1)),.agg (AV.za (setCells (AV.agg cs52).cells ((0:Nat)+n51.toNat*1) [iN (if n57>n60 then n57 else n60)]))])/\(decide (n51<(↑(↑(↑es26.length:Int).toNat:Int).toNat:Int))=false->yn [AV.slc 3 (List.map (fun x=>AV.slc 3 (List.map (AV.int i64) x)) needs)]/\∃k57,k57<m31/\I29 k57 [iN (wrap i64 (n32+1)),.agg (AV.za (AV.agg cs52).cells)])))/\(decide (n32<(↑(List.map (fun x=>AV.slc 3 (List.map (AV.int i64) x)) sets).length:Int))=false->((0:Nat)+(↑es26.length:Int).toNat*(1:Nat)<=(AV.agg cs33).cells.length/\yw (AV.agg cs33).cells=true)/\Q (.tup [AV.slc 3 (chunks (1:Nat) (yp Tryz.prog (3:Nat)) (↑es26.length:Int).toNat (List.drop (0:Nat) (AV.agg cs33).cells)),iN 0]) []))))))))
theorem s35 (needs:List (List Int)) (sets:List (List Int)) (v:AV) (O:List (List AV)) (h:R35 needs sets Sp Fo So (fun r O'=>r=v/\O'=O)):Sp 35 [.slc 3 (List.map (fun x=>.slc 3 (List.map (AV.int .i64) x)) needs),.slc 3 (List.map (fun x=>.slc 3 (List.map (AV.int .i64) x)) sets)] [] v O :=
 yj (w:=⟨[],[],[93,73],[],[]⟩) (k:=0) (keep:=⟨[0,1,2,4,5,6,7,8,9,10,11,13,14,16,17,18,19,20,25,34,38,43,47,51,60,61,62,63,69,70,71,72,78,79,80,81,94,95,96,97],[⟨20,[(62,iN 0)],[],[(59,.tup [])],[],[],[]⟩,⟨24,[(71,iN 0)],[],[(68,.tup [])],[],[],[]⟩,⟨27,[(80,iN 0)],[],[(68,.tup [])],[],[],[]⟩,⟨33,[(96,iN 0)],[],[(59,.tup [])],[],[],[]⟩],[],[]⟩) (boxes:=[]) mixed (by exact trivial) Tryz.func35 Tryz.call35 rfl rfl rfl (Nat.le_of_ble_eq_true rfl) (by kernel_rfl) h
theorem c35 (needs sets:List (List Int)) (hs:sets.length+sets.flatten.length<=1048576) (hn:needs.length+needs.flatten.length<=1048576):Sp 35 [.slc 3 (yC needs),.slc 3 (yC sets)] [] (jZ needs sets) []:=s35 needs sets _ _ (by
 have hsm:∀l∈sets,l.length<=17592186043904:=fun l hl=>by
  obtain ⟨i,hi,rfl⟩:=List.getElem_of_mem hl;have h1:=u4 hi;have h2:=WT (P:=sets) (i+1);rw[h1,List.length_append] at h2;omega
 unfold R35;refine⟨_,c88 sets (by omega) (by omega),?_⟩;rw[List.length_map,List.length_map];refine⟨fun h=>⟨by unfold jZ XT;rw[if_pos (by have:=zt_ h;omega)];rfl,by trivial⟩,fun h=>?_⟩;have h0:¬ sets.length>200:=by have:=zf_ h;omega
 have hE:XT needs sets=_:=if_neg h0;refine⟨fun h=>⟨by unfold jZ;rw[hE,if_pos (by have:=zt_ h;omega)];rfl,by trivial⟩,fun h=>?_⟩;have h1:¬ needs.length>100:=by have:=zf_ h;omega
 rw[if_neg h1] at hE;refine⟨_,zbL needs (by omega),fun h=>⟨by unfold jZ;rw[hE,if_pos h];rfl,by trivial⟩,fun h2=>?_⟩;rw[if_neg (by rw[h2];simp)] at hE;refine⟨_,c88 needs (by omega) (by omega),_,zbJ needs.flatten (by omega),fun h=>⟨by unfold jZ;rw[hE,if_pos h];rfl,by trivial⟩,fun h3=>?_⟩;rw[if_neg (by rw[h3];simp)] at hE;refine⟨_,zbI sets.flatten needs (by omega),fun h=>⟨by unfold jZ;rw[hE,if_pos h];rfl,by trivial⟩,fun h4=>?_⟩;rw[if_neg (by rw[h4];simp)] at hE;refine⟨_,zbM sets (by omega) hsm,fun h=>⟨by unfold jZ;rw[hE,if_pos h];rfl,by trivial⟩,fun h5=>?_⟩;rw[if_neg (by rw[h5];simp)] at hE;refine⟨fun h=>⟨by unfold jZ;rw[hE,if_pos (by have:=eq_of_beq h;omega)];rfl,by trivial⟩,fun h=>?_⟩;have h6:needs.length≠0:=by
  intro h';rw[h'] at h;simp at h
 rw[if_neg h6] at hE;have V:=IJ h0 h1 h2 h3 h4 h5 h6;have h4':=V.four;have hp0:=jP (P:=needs) (k:=0) (by omega);have e0:needs[0]'(by omega)=needs.getD 0 []:=by rw[List.getD_eq_getElem?_getD,List.getElem?_eq_getElem (by omega)];rfl
 rw[e0] at hp0;have hz:(jB needs).length=(needs.getD 0 []).length:=by unfold jB;rw[List.length_replicate]
 generalize hK:(needs.getD 0 []).length=K at *;have hlen:(yo (needs.getD 0 [])).length=K:=by rw[yz];exact hK
 refine⟨_,⟨by omega,by trivial,hp0⟩,?_⟩;rw[hlen];refine⟨⟨by omega,by omega,by omega⟩,fun m vs=>∃j:Nat,vs=[.int .i64 j,.agg (yo (xb needs (jB needs) (sets.take j) (jB needs)))]/\j<=sets.length/\m=sets.length-j,⟨_,0,by show [AV.int .i64 (0:Int),AV.agg (AV.za (List.replicate ((K:Nat):Int).toNat [AV.int .i64 0]).flatten)]=_;rw[Sk];unfold jB;rw[hK];rfl,by omega,rfl⟩,?_⟩;rintro m31 n32 cs33 ⟨j,hj,hjl,rfl⟩;cases hj;have le:=O2 V (sets.take j) (jB needs) (fun s h=>List.mem_of_mem_take h) (by rw[hz,hK]);rw[hK] at le;refine⟨fun h=>?_,fun h=>?_⟩
 ·have hj:j<sets.length:=by have:=zt_ h;omega
  have hset:=V.one _ (List.getElem_mem hj);have hsj:=hsm _ (List.getElem_mem hj);refine⟨_,⟨by omega,by trivial,jP hj⟩,⟨by omega,by omega,by omega⟩,fun m vs=>∃p:Nat,vs=[.int .i64 p,.agg (yo (QO needs (jB needs) (sets[j].take p)))]/\p<=sets[j].length/\m=sets[j].length-p,⟨_,0,by rw[show ((((K:Nat):Int).toNat:Nat):Int)=(K:Int) by omega];show [AV.int .i64 (0:Int),AV.agg (AV.za (List.replicate ((K:Nat):Int).toNat [AV.int .i64 0]).flatten)]=_;rw[Sk];unfold jB;rw[hK];rfl,by omega,rfl⟩,?_⟩;rintro m42 n43 cs44 ⟨p,hp,hpl,rfl⟩;cases hp;have ls:=ML V (z:=jB needs) (by rw[hz,hK]) (sets[j].take p) (fun n hn=>hset n (List.mem_of_mem_take hn));rw[hK] at ls;rw[yz];refine⟨fun h=>?_,fun h=>?_⟩
  ·have hp:p<sets[j].length:=by have:=zt_ h;omega
   obtain ⟨x0,x1⟩:=hset _ (List.getElem_mem hp);obtain ⟨g1,g2,g3⟩:=V.need x0 x1;rw[hK] at g3;have g1':(yC needs)[(sets[j][p]).toNat]? = some (.slc 3 (yo (vY needs sets[j][p]))):=by unfold yC;rw[List.getElem?_map,g1];rfl
   have hst:=Is (needs:=needs) (z:=jB needs) hp;refine⟨_,⟨by omega,by trivial,wC hp⟩,_,⟨x0,by trivial,g1'⟩,?_⟩;generalize vY needs sets[j][p]=b at *;generalize hA:QO needs (jB needs) (sets[j].take p)=a at *;refine⟨fun m vs=>∃k:Nat,vs=[.int .i64 k,.agg (yo (vX Ui a b k))]/\k<=K/\m=K-k,⟨_,0,by show _=[AV.int .i64 0,AV.agg (yo (vX Ui a b 0))];rw[PU];show [AV.int .i64 0,AV.agg (AV.za (yo a))]=_;rw[xm],by omega,rfl⟩,?_⟩;rintro m54 n55 cs56 ⟨k,hk,hkl,rfl⟩;cases hk;rw[yz,g3];have lm:=WX (f:=Ui) (a:=a) (b:=b) (k:=k) (by omega) (by omega);refine⟨fun h=>?_,fun h=>?_⟩
   ·have hk:k<K:=by have:=zt_ h;omega
    have q1:=WW (f:=Ui) (a:=a) (b:=b) (k:=k) (j:=k) (by omega) (by omega) (by omega);rw[if_neg (by omega)] at q1;have q2:=MA (f:=Ui) (a:=a) (b:=b) (k:=k) (by omega) (by omega);have qb:=Je (l:=b) (k:=k) (by omega);have qb':(yo b)[((k:Nat):Int).toNat]? = some (.int .i64 (b.getD k 0)):=by unfold yo;rw[Int.toNat_natCast,List.getElem?_map,qb];rfl
    refine⟨_,⟨by omega,by trivial,qb'⟩,⟨by omega,by omega,by trivial⟩,_,X5 q1,⟨by omega,by omega,by trivial⟩,?_,rfl,rfl,K-(k+1),by omega,k+1,?_,by omega,rfl⟩
    ·show 0+((k:Nat):Int).toNat*1+1<=(yo (vX Ui a b k)).length;rw[yz,lm];omega
    ·show [AV.int .i64 (wrap i64 ((k:Int)+1)),AV.agg (AV.za (setCells (yo (vX Ui a b k)) (0+((k:Nat):Int).toNat*1) [AV.int .i64 (Ui (a.getD k 0) (b.getD k 0))]))]=_;rw[PD (by rw[lm];omega),q2,xm,zw6 (n:=(k:Int)+1) (by omega)];rfl
   ·have hk:k=K:=by have:=zf_ h;omega
    subst hk;refine⟨rfl,rfl,sets[j].length-(p+1),by omega,p+1,?_,by omega,rfl⟩;show [AV.int .i64 (wrap i64 ((p:Int)+1)),AV.agg (AV.za (yo (vX Ui a b k)))]=_;rw[xm,hst,zw6 (n:=(p:Int)+1) (by omega),show k=a.length by omega,PT (by omega)];rfl
  ·have hp:p=sets[j].length:=by have:=zf_ h;omega
   subst hp;rw[List.take_length] at ls ⊢;have het:=Pg (needs:=needs) (z:=jB needs) (e:=jB needs) hj;generalize QO needs (jB needs) sets[j]=b at *;generalize hA:xb needs (jB needs) (sets.take j) (jB needs)=a at *;refine⟨fun m vs=>∃k:Nat,vs=[.int .i64 k,.agg (yo (vX uQ a b k))]/\k<=K/\m=K-k,⟨_,0,by show _=[AV.int .i64 0,AV.agg (yo (vX uQ a b 0))];rw[PU];show [AV.int .i64 0,AV.agg (AV.za (yo a))]=_;rw[xm],by omega,rfl⟩,?_⟩;rintro m50 n51 cs52 ⟨k,hk,hkl,rfl⟩;cases hk;have lm:=WX (f:=uQ) (a:=a) (b:=b) (k:=k) (by omega) (by omega);refine⟨fun h=>?_,fun h=>?_⟩
   ·have hk:k<K:=by have:=zt_ h;omega
    have q1:=WW (f:=uQ) (a:=a) (b:=b) (k:=k) (j:=k) (by omega) (by omega) (by omega);rw[if_neg (by omega)] at q1;have q2:=MA (f:=uQ) (a:=a) (b:=b) (k:=k) (by omega) (by omega);refine⟨⟨by omega,by omega,by trivial⟩,_,X5 (Je (by omega)),⟨by omega,by omega,by trivial⟩,_,X5 q1,⟨by omega,by omega,by trivial⟩,?_,rfl,rfl,K-(k+1),by omega,k+1,?_,by omega,rfl⟩
    ·show 0+((k:Nat):Int).toNat*1+1<=(yo (vX uQ a b k)).length;rw[yz,lm];omega
    ·show [AV.int .i64 (wrap i64 ((k:Int)+1)),AV.agg (AV.za (setCells (yo (vX uQ a b k)) (0+((k:Nat):Int).toNat*1) [AV.int .i64 (uQ (a.getD k 0) (b.getD k 0))]))]=_;rw[PD (by rw[lm];omega),q2,xm,zw6 (n:=(k:Int)+1) (by omega)];rfl
   ·have hk:k=K:=by have:=zf_ h;omega
    subst hk;refine⟨rfl,sets.length-(j+1),by omega,j+1,?_,by omega,rfl⟩;show [AV.int .i64 (wrap i64 ((j:Int)+1)),AV.agg (AV.za (yo (vX uQ a b k)))]=_;rw[xm,het,zw6 (n:=(j:Int)+1) (by omega),show k=a.length by omega,PT (by omega)];rfl
 ·have hj:j=sets.length:=by have:=zf_ h;omega
  subst hj;rw[List.take_length] at le ⊢;refine⟨⟨?_,jC _⟩,?_,by trivial⟩
  ·show _<=(yo (xb needs (jB needs) sets (jB needs))).length;rw[yz,le];omega
  ·unfold jZ;rw[hE,S1,List.drop_zero];show AV.tup [.slc 3 ((yo (xb needs (jB needs) sets (jB needs))).take (((K:Nat):Int).toNat)),_]=_;rw[List.take_of_length_le (by rw[yz,le];omega)])
end Go.Proofs.YtdeeekgohhkdbaaGreatDoor

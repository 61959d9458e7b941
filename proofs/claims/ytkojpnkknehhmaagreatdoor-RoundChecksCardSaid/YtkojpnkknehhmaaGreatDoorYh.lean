/- Contracts: the document's inverse of the cosine is the program's. Contracts: the document's sun is the program's: small functions. -/
import Derived.Test.YtkojpnkknehhmaaGreatDoorYf
namespace Go.Proofs.YtkojpnkknehhmaaGreatDoor
open Go.IntKind (wrap i64 u64)
open Go.RowKit SunQ
def Se (x:Int):Nat:=kD (fun a=>decide (xk a>=x)) 180000001 0 180000001
theorem Lj (f:Nat->Bool) (k i j:Nat):kD f (k+1) i j=if j-i>1 then (if f ((i+j) / 2) then kD f k ((i+j) / 2) j else kD f k i ((i+j) / 2)) else i:=rfl
theorem Li (f:Nat->Bool) (k i j:Nat) (h:¬ j-i>1):kD f k i j=i:=by
 cases k with
 |zero=>rfl
 |succ k=>rw[Lj,if_neg h]
def Ld (x:Int):TEncl:=⟨Se x,if vY (Se x)<=x then Se x else Se x+1⟩
def GJ (x:Int) (S:SpecF) (_Fr:FreshF) (_Sq:SeqF) (Q:yc):Prop :=
 ∃(I0:Nat->List AV->Prop),(∃m2,I0 m2 [iN 0,iN 180000001])/\∀(m2:Nat) (n3 n4:Int),I0 m2 [iN n3,iN n4]->(decide (wrap i64 (n4-n3)>1)=true->∃n8 n9,S 217 [iN (wrap i64 (wrap i64 ((wrap i64 (n3+n4)).tdiv (2:Int))+90000000))] [] (.agg [iN n8,iN n9]) []/\(decide (n8>=x)=true->TEncl.z0=TEncl.z0/\∃k14,k14<m2/\I0 k14 [iN (wrap i64 ((wrap i64 (n3+n4)).tdiv (2:Int))),iN n4])/\(decide (n8>=x)=false->TEncl.z0=TEncl.z0/\∃k14,k14<m2/\I0 k14 [iN n3,iN (wrap i64 ((wrap i64 (n3+n4)).tdiv (2:Int)))]))/\(decide (wrap i64 (n4-n3)>1)=false->∃n8 n9,S 217 [iN (wrap i64 (n3+90000000))] [] (.agg [iN n8,iN n9]) []/\(decide (n9<=x)=true->Q (.agg [iN n3,iN n3]) [])/\(decide (n9<=x)=false->Q (.agg [iN n3,iN (wrap i64 (n3+1))]) []))
theorem zcE (x:Int) (v:AV) (O:List (List AV)) (h:GJ x Sp Fo So (fun r O'=>r=v/\O'=O)):Sp 194 [iN x] [] v O :=
 yb (w:=⟨[],[],[],[],[]⟩) (k:=0) (keep:=⟨[0,2,3,4,5,9,19,27],[⟨2,[(3,iN 0),(4,iN 0)],[],[],[],[],[]⟩],[],[]⟩) (boxes:=[]) mixed (by exact trivial) Tryz.func194 Tryz.call194 rfl rfl rfl (Nat.le_of_ble_eq_true rfl) (by kernel_rfl) h
theorem FI (x:Int):Sp 194 [.int .i64 x] [] (Ld x).av []:=zcE x _ _ (by
 unfold GJ;refine⟨fun m vs=>∃i j:Nat,i<j/\j<=180000001/\j-i<=m+1/\vs=[.int .i64 i,.int .i64 j]/\kD (fun a=>decide (xk a>=x)) m i j=Se x,⟨180000001,0,180000001,by omega,by omega,by omega,rfl,rfl⟩,?_⟩;rintro m _ _ ⟨i,j,h1,h2,h3,hv,hs⟩;cases hv;rw[zw6 (n:=(j:Int)-i) (by omega)];refine⟨fun g=>?_,fun g=>?_⟩
 ·have g:=zt_ g;obtain ⟨k,rfl⟩:∃k,m=k+1:=⟨m-1,by omega⟩;rw[Lj,if_pos (by omega)] at hs;have hm:IntKind.i64.wrap ((wrap i64 ((i:Int)+j)).tdiv 2)=(((i+j) / 2:Nat):Int):=by
   rw[YF (by omega),show (2:Int)=((2:Nat):Int) from rfl,tdN,ux (by omega)]
  rw[hm,zw6 (n:=_+90000000) (by omega)];have hk:=Jo (((i+j) / 2:Nat)+90000000);rw[Xl (by omega)] at hk;refine⟨_,_,hk,fun g2=>⟨rfl,k,by omega,_,_,by omega,by omega,by omega,rfl,?_⟩,fun g2=>⟨rfl,k,by omega,_,_,by omega,by omega,by omega,rfl,?_⟩⟩
  ·rw[if_pos g2] at hs;exact hs
  ·have g2:decide (xk ((i+j) / 2)>=x)=false:=g2;rw[if_neg (by rw[g2];simp)] at hs;exact hs
 ·have g:=zf_ g;rw[Li _ _ _ _ (by omega)] at hs;rw[zw6 (n:=(i:Int)+90000000) (by omega)];have hk:=Jo ((i:Nat)+90000000);rw[Xl (by omega)] at hk;unfold Ld;rw[<- hs];refine⟨_,_,hk,fun g2=>⟨?_,rfl⟩,fun g2=>⟨?_,rfl⟩⟩
  ·have g2:vY i<=x:=zt_ g2;rw[if_pos g2];rfl
  ·have g2:¬ vY i<=x:=zf_ g2;rw[if_neg g2,yg (by omega)];rfl)
theorem wQ {f g:Nat->Bool}:∀(k i j:Nat),(∀a,a<j->f a=g a)->yz f k i j=yz g k i j
 |0,_,_,_=>rfl
 |k+1,i,j,h=>by
  rw[wV,wV];split
  ·rw[h _ (by omega),wQ k i _ fun a ha=>h a (by omega),wQ k _ j h]
  ·rfl
theorem Le {x:TEncl} (h1:x.Lo<=x.Hi) (h2:-100000000<=x.Lo) (h3:x.Hi<=100000000):Wq x=⟨(Ld x.Hi).Lo,(Ld x.Lo).Hi⟩:=by
 have a1:=(Fs SunQ.blocksB (x:=x.Hi) (by omega) h3 180000001 (by omega)).1;have a2:=(Fs SunQ.blocksB (x:=x.Lo) h2 (by omega) 180000001 (by omega)).2;unfold Wq Ld;have e1:yz (Uj x) 180000001 0 180000001=Se x.Hi+1:=by
  rw[wQ _ _ _ (g:=fun a=>decide (xk a<x.Hi)) fun a ha=>by unfold Uj;rw[Xl (by omega)]];exact a1
 have e2:yz (Yi x) 180000000 0 180000000=if vY (Se x.Lo)<=x.Lo then Se x.Lo else Se x.Lo+1:=by
  rw[wQ _ _ _ (g:=fun a=>decide (vY a<=x.Lo)) fun a ha=>by unfold Yi;rw[Xl (by omega)]];exact a2
 rw[e1,e2];dsimp only;congr 1
 ·omega
 ·split<;>omega
def Gw (x:TEncl) (S:SpecF) (_Fr:FreshF) (_Sq:SeqF) (Q:yc):Prop :=
 (decide (x.Lo>x.Hi)=true->Q (.tup [TEncl.zero.av,iN 7]) [])/\(decide (x.Lo>x.Hi)=false->(decide (x.Lo<(-100000000:Int))=true->Q (.tup [TEncl.zero.av,iN 7]) [])/\(decide (x.Lo<(-100000000:Int))=false->(decide (x.Hi>100000000)=true->Q (.tup [TEncl.zero.av,iN 7]) [])/\(decide (x.Hi>100000000)=false->∃n6 n7,S 194 [iN x.Hi] [] (.agg [iN n6,iN n7]) []/\∃n9 n10,S 194 [iN x.Lo] [] (.agg [iN n9,iN n10]) []/\Q (.tup [AV.agg [iN n6,iN n10],iN 0]) [])))
theorem zb9 (x:TEncl) (v:AV) (O:List (List AV)) (h:Gw x Sp Fo So (fun r O'=>r=v/\O'=O)):Sp 162 [x.av] [] v O :=
 yb (w:=⟨[],[],[],[],[]⟩) (k:=0) (keep:=⟨[0,1,2,3,18],[],[],[]⟩) (boxes:=[]) mixed (by exact trivial) Tryz.func162 Tryz.call162 rfl rfl rfl (Nat.le_of_ble_eq_true rfl) (by kernel_rfl) h
theorem FA (x:TEncl):Sp 162 [x.av] [] (.tup [(yZ x).1.av,.int .i64 (yZ x).2]) []:=zb9 x _ _ (by
 unfold Gw yZ;have hw:qc x 100000000=(decide (x.Lo>x.Hi) || (decide (x.Lo < -100000000) || decide (x.Hi>100000000))):=rfl;rw[hw];refine⟨fun g=>⟨by rw[g];rfl,rfl⟩,fun g=>⟨fun g2=>⟨by rw[g,g2];rfl,rfl⟩,fun g2=>⟨fun g3=>⟨by rw[g,g2,g3];rfl,rfl⟩,fun g3=>?_⟩⟩⟩;rw[g,g2,g3];refine⟨_,_,FI x.Hi,_,_,FI x.Lo,?_,rfl⟩;rw[if_neg (by simp),Le (by have:=zf_ g;omega) (by have:=zf_ g2;omega) (by have:=zf_ g3;omega)];rfl)
def GU (x:TEncl) (S:SpecF) (_Fr:FreshF) (_Sq:SeqF) (Q:yc):Prop :=
 ∃n0 n1 n2,S 162 [x.av] [] (.tup [AV.agg [iN n0,iN n1],iN n2]) []/\((n2 != 0)=true->Q (.tup [TEncl.zero.av,iN n2]) [])/\((n2 != 0)=false->Q (.tup [AV.agg [iN (wrap i64 ((90000000:Int)-n1)),iN (wrap i64 ((90000000:Int)-n0))],iN 0]) [])
theorem zcX (x:TEncl) (v:AV) (O:List (List AV)) (h:GU x Sp Fo So (fun r O'=>r=v/\O'=O)):Sp 215 [x.av] [] v O :=
 yb (w:=⟨[],[],[],[],[]⟩) (k:=0) (keep:=⟨[0,1,2,3,4,5,12],[],[],[]⟩) (boxes:=[]) mixed (by exact trivial) Tryz.func215 Tryz.call215 rfl rfl rfl (Nat.le_of_ble_eq_true rfl) (by kernel_rfl) h
theorem za7 (x:TEncl):Sp 215 [x.av] [] (.tup [(xp x).1.av,.int .i64 (xp x).2]) []:=zcX x _ _ (by
 unfold GU xp;refine⟨_,_,_,FA x,fun h=>⟨?_,rfl⟩,fun h=>⟨?_,rfl⟩⟩
 ·have h:(yZ x).2≠0:=by simpa using h
  rw[if_pos h];rfl
 ·have h:(yZ x).2=0:=by simpa using h
  rw[if_neg (by simp[h])];rfl)
open Go.RowKit SunQ
theorem wq {a b:Int} (h:a % 18446744073709551616=b % 18446744073709551616):IntKind.i64.wrap a=wrap i64 b:=by rw[L9,L9,h]
theorem wx (a:Int):∃k,wrap i64 a=a+18446744073709551616*k:=by
 rw[L9];have:=Int.emod_add_mul_ediv a 18446744073709551616;split
 ·exact⟨-(a / 18446744073709551616)-1,by omega⟩
 ·exact⟨-(a / 18446744073709551616),by omega⟩
theorem win (a:Int):-9223372036854775808<=wrap i64 a/\IntKind.i64.wrap a<9223372036854775808:=by
 rw[L9];split<;>omega
theorem Gb (a:Int):IntKind.i64.wrap (0-wrap i64 a)=wrap i64 (0-a):=by
 obtain ⟨k,e⟩:=wx a;rw[e];exact wq (by omega)
theorem Ny (k h:Int):IntKind.i64.wrap (wrap i64 (0-k)*h)=wrap i64 (0-k*h):=by
 obtain ⟨q,e⟩:=wx (0-k);rw[e,Int.add_mul,Int.sub_mul,Int.zero_mul,Int.mul_assoc];generalize k*h=a;generalize q*h=b;exact wq (by omega)
def inE (x:TEncl):Prop:=(-9223372036854775808<=x.Lo/\x.Lo<9223372036854775808) /\ -9223372036854775808<=x.Hi/\x.Hi<9223372036854775808
theorem JR (x:TEncl) (n:Int):inE (jN x n):=⟨win _,win _⟩
def Gx (n d:Int) (_S:SpecF) (_Fr:FreshF) (_Sq:SeqF) (Q:yc):Prop :=
 d≠0/\(decide (n<0)=true->d≠0/\((n.tmod d != 0)=true->Q (iN (wrap i64 (wrap i64 (n.tdiv d)-1))) [])/\((n.tmod d != 0)=false->Q (iN (wrap i64 (n.tdiv d))) []))/\(decide (n<0)=false->Q (iN (wrap i64 (n.tdiv d))) [])
theorem zcc (n:Int) (d:Int) (v:AV) (O:List (List AV)) (h:Gx n d Sp Fo So (fun r O'=>r=v/\O'=O)):Sp 165 [iN n,iN d] [] v O :=
 yb (w:=⟨[],[],[],[],[]⟩) (k:=0) (keep:=⟨[0,1,4,5,16],[],[],[]⟩) (boxes:=[]) mixed (by exact trivial) Tryz.func165 Tryz.call165 rfl rfl rfl (Nat.le_of_ble_eq_true rfl) (by kernel_rfl) h
theorem Qf (n d:Int) (hd:0<d):Sp 165 [.int .i64 n,.int .i64 d] [] (.int .i64 (qM n d)) []:=zcc n d _ _ (by
 unfold Gx;rw[Nr hd];have d0:d≠0:=by omega
 refine⟨d0,fun g=>⟨d0,fun g2=>⟨?_,rfl⟩,fun g2=>⟨?_,rfl⟩⟩,fun g=>⟨?_,rfl⟩⟩
 ·rw[if_pos (zt_ g),if_pos (by simpa using g2)]
 ·rw[if_pos (zt_ g),if_neg (by simpa using g2)]
 ·rw[if_neg (zf_ g)])
def DS (n d:Int) (S:SpecF) (_Fr:FreshF) (_Sq:SeqF) (Q:yc):Prop :=
 ∃n0,S 165 [iN (wrap i64 ((0:Int)-n)),iN d] [] (iN n0) []/\Q (iN (wrap i64 ((0:Int)-n0))) []
theorem zcd (n:Int) (d:Int) (v:AV) (O:List (List AV)) (h:DS n d Sp Fo So (fun r O'=>r=v/\O'=O)):Sp 166 [iN n,iN d] [] v O :=
 yb (w:=⟨[],[],[],[],[]⟩) (k:=0) (keep:=⟨[0,1,4],[],[],[]⟩) (boxes:=[]) mixed (by exact trivial) Tryz.func166 Tryz.call166 rfl rfl rfl (Nat.le_of_ble_eq_true rfl) (by kernel_rfl) h
theorem Hb (n d:Int) (hd:0<d):Sp 166 [.int .i64 n,.int .i64 d] [] (.int .i64 (wrap i64 (0-qM (wrap i64 (0-n)) d))) []:=zcd n d _ _ ⟨_,Qf _ _ hd,rfl,rfl⟩
theorem KK (x:TEncl) (n d:Int):IntKind.i64.wrap (0-qM (wrap i64 (0-wrap i64 (n*x.Hi))) d)=(yL x n d).Hi:=by
 unfold yL;dsimp only;rw[Gb,Ny]
theorem OV (x:TEncl) (n d:Int) (hd:0<d):Sp 166 [.int .i64 (wrap i64 (n*x.Hi)),.int .i64 d] [] (.int .i64 (yL x n d).Hi) []:=by
 rw[<- KK];exact Hb _ _ hd
def D2 (k:Int) (s:TEncl) (S:SpecF) (_Fr:FreshF) (_Sq:SeqF) (Q:yc):Prop :=
 ∃n0,S 165 [iN (wrap i64 (k*s.Lo)),iN 100000000] [] (iN n0) []/\∃n2,S 166 [iN (wrap i64 (k*s.Hi)),iN 100000000] [] (iN n2) []/\Q (.agg [iN n0,iN n2]) []
theorem zcu (k:Int) (s:TEncl) (v:AV) (O:List (List AV)) (h:D2 k s Sp Fo So (fun r O'=>r=v/\O'=O)):Sp 184 [iN k,s.av] [] v O :=
 yb (w:=⟨[],[],[],[],[]⟩) (k:=0) (keep:=⟨[0,1,3,4],[],[],[]⟩) (boxes:=[]) mixed (by exact trivial) Tryz.func184 Tryz.call184 rfl rfl rfl (Nat.le_of_ble_eq_true rfl) (by kernel_rfl) h
theorem Jk (k:Int) (s:TEncl):Sp 184 [.int .i64 k,s.av] [] (yL s k 100000000).av []:=zcu k s _ _ ⟨_,Qf _ _ (by decide),_,OV s k _ (by decide),rfl,rfl⟩
def D1 (x y:TEncl) (_S:SpecF) (_Fr:FreshF) (_Sq:SeqF) (Q:yc):Prop :=
 Q (.agg [iN (wrap i64 (x.Lo+y.Lo)),iN (wrap i64 (x.Hi+y.Hi))]) []
theorem zct (x:TEncl) (y:TEncl) (v:AV) (O:List (List AV)) (h:D1 x y Sp Fo So (fun r O'=>r=v/\O'=O)):Sp 183 [x.av,y.av] [] v O :=
 yb (w:=⟨[],[],[],[],[]⟩) (k:=0) (keep:=⟨[0,1,2,3,4],[],[],[]⟩) (boxes:=[]) mixed (by exact trivial) Tryz.func183 Tryz.call183 rfl rfl rfl (Nat.le_of_ble_eq_true rfl) (by kernel_rfl) h
theorem FE (x y:TEncl):Sp 183 [x.av,y.av] [] (q8 x y).av []:=zct x y _ _ ⟨rfl,rfl⟩
def dfE (x y:TEncl):TEncl:=⟨wrap i64 (x.Lo-y.Hi),wrap i64 (x.Hi-y.Lo)⟩
def DQ (x y:TEncl) (_S:SpecF) (_Fr:FreshF) (_Sq:SeqF) (Q:yc):Prop :=
 Q (.agg [iN (wrap i64 (x.Lo-y.Hi)),iN (wrap i64 (x.Hi-y.Lo))]) []
theorem zca (x:TEncl) (y:TEncl) (v:AV) (O:List (List AV)) (h:DQ x y Sp Fo So (fun r O'=>r=v/\O'=O)):Sp 163 [x.av,y.av] [] v O :=
 yb (w:=⟨[],[],[],[],[]⟩) (k:=0) (keep:=⟨[0,1,2,3,4],[],[],[]⟩) (boxes:=[]) mixed (by exact trivial) Tryz.func163 Tryz.call163 rfl rfl rfl (Nat.le_of_ble_eq_true rfl) (by kernel_rfl) h
theorem NK (x y:TEncl):Sp 163 [x.av,y.av] [] (dfE x y).av []:=zca x y _ _ ⟨rfl,rfl⟩
def K8 (x:TEncl) (n:Int):TEncl:=⟨wrap i64 (x.Lo-n),wrap i64 (x.Hi+n)⟩
def D6 (x:TEncl) (n:Int) (_S:SpecF) (_Fr:FreshF) (_Sq:SeqF) (Q:yc):Prop :=
 Q (.agg [iN (wrap i64 (x.Lo-n)),iN (wrap i64 (x.Hi+n))]) []
theorem zcy (x:TEncl) (n:Int) (v:AV) (O:List (List AV)) (h:D6 x n Sp Fo So (fun r O'=>r=v/\O'=O)):Sp 188 [x.av,iN n] [] v O :=
 yb (w:=⟨[],[],[],[],[]⟩) (k:=0) (keep:=⟨[0,1,2,4],[],[],[]⟩) (boxes:=[]) mixed (by exact trivial) Tryz.func188 Tryz.call188 rfl rfl rfl (Nat.le_of_ble_eq_true rfl) (by kernel_rfl) h
theorem FG (x:TEncl) (n:Int):Sp 188 [x.av,.int .i64 n] [] (K8 x n).av []:=zcy x n _ _ ⟨rfl,rfl⟩
def D5 (x:TEncl) (S:SpecF) (_Fr:FreshF) (_Sq:SeqF) (Q:yc):Prop :=
 ∃n0,S 165 [iN x.Lo,iN 360000000] [] (iN n0) []/\Q (.agg [iN (wrap i64 (x.Lo-wrap i64 ((360000000:Int)*n0))),iN (wrap i64 (x.Hi-wrap i64 ((360000000:Int)*n0)))]) []
theorem zcx (x:TEncl) (v:AV) (O:List (List AV)) (h:D5 x Sp Fo So (fun r O'=>r=v/\O'=O)):Sp 187 [x.av] [] v O :=
 yb (w:=⟨[],[],[],[],[]⟩) (k:=0) (keep:=⟨[0,1,2,3],[],[],[]⟩) (boxes:=[]) mixed (by exact trivial) Tryz.func187 Tryz.call187 rfl rfl rfl (Nat.le_of_ble_eq_true rfl) (by kernel_rfl) h
theorem FF (x:TEncl):Sp 187 [x.av] [] (Xs x).av []:=zcx x _ _ (by
 refine⟨_,Qf _ _ (by decide),?_,rfl⟩;generalize hq:qM x.Lo 360000000=q;have e:∀z:Int,wrap i64 (z-wrap i64 (360000000*q))=wrap i64 (z+wrap i64 (-360000000*q)):=fun z=>by
  obtain ⟨k,e1⟩:=wx (360000000*q);obtain ⟨j,e2⟩:=wx (-360000000*q);rw[e1,e2];exact wq (by omega)
 rw[e,e];unfold Xs jN;rw[hq];rfl)
theorem Q5 (z:Int):qM z 1=wrap i64 z:=by
 unfold qM;rw[Int.tmod_one,Int.tdiv_one,if_neg (by decide)]
theorem TX (x:TEncl) (n:Int):yL x n 1=⟨wrap i64 (n*x.Lo),wrap i64 (n*x.Hi)⟩:=by
 unfold yL;rw[Q5,Q5,Ny];have h:=win (n*x.Lo);rw[zw6 (n:=wrap i64 (n*x.Lo)) h];congr 1;generalize n*x.Hi=a;obtain ⟨k,e⟩:=wx (wrap i64 (0-a));obtain ⟨j,e2⟩:=wx (0-a);rw[e,e2];exact wq (by omega)
theorem KL {x:TEncl} (h:inE x):yL x 1 1=x:=by
 rw[TX,Int.one_mul,Int.one_mul,zw6 h.1,zw6 h.2]
def D4 (x:TEncl) (n:Int) (_S:SpecF) (_Fr:FreshF) (_Sq:SeqF) (Q:yc):Prop :=
 Q (.agg [iN (wrap i64 (n*x.Lo)),iN (wrap i64 (n*x.Hi))]) []
theorem zcw (x:TEncl) (n:Int) (v:AV) (O:List (List AV)) (h:D4 x n Sp Fo So (fun r O'=>r=v/\O'=O)):Sp 186 [x.av,iN n] [] v O :=
 yb (w:=⟨[],[],[],[],[]⟩) (k:=0) (keep:=⟨[0,1,2,4],[],[],[]⟩) (boxes:=[]) mixed (by exact trivial) Tryz.func186 Tryz.call186 rfl rfl rfl (Nat.le_of_ble_eq_true rfl) (by kernel_rfl) h
theorem He (x:TEncl) (n:Int):Sp 186 [x.av,.int .i64 n] [] (yL x n 1).av []:=zcw x n _ _ ⟨by rw[TX];rfl,rfl⟩
def D3 (x:TEncl) (S:SpecF) (_Fr:FreshF) (_Sq:SeqF) (Q:yc):Prop :=
 ∃n0 n1 n2,S 210 [x.av] [] (.tup [AV.agg [iN n0,iN n1],iN n2]) []/\Q (.agg [iN n0,iN n1]) []
theorem zcv (x:TEncl) (v:AV) (O:List (List AV)) (h:D3 x Sp Fo So (fun r O'=>r=v/\O'=O)):Sp 185 [x.av] [] v O :=
 yb (w:=⟨[],[],[],[],[]⟩) (k:=0) (keep:=⟨[0,1,2,3],[],[],[]⟩) (boxes:=[]) mixed (by exact trivial) Tryz.func185 Tryz.call185 rfl rfl rfl (Nat.le_of_ble_eq_true rfl) (by kernel_rfl) h
theorem Qj (x:TEncl):Sp 185 [x.av] [] (yY x 0).1.av []:=zcv x _ _ ⟨_,_,_,za5 x,rfl,rfl⟩
def D7 (x:TEncl) (S:SpecF) (_Fr:FreshF) (_Sq:SeqF) (Q:yc):Prop :=
 ∃n0 n1 n2,S 214 [x.av] [] (.tup [AV.agg [iN n0,iN n1],iN n2]) []/\Q (.agg [iN n0,iN n1]) []
theorem zcA (x:TEncl) (v:AV) (O:List (List AV)) (h:D7 x Sp Fo So (fun r O'=>r=v/\O'=O)):Sp 190 [x.av] [] v O :=
 yb (w:=⟨[],[],[],[],[]⟩) (k:=0) (keep:=⟨[0,1,2,3],[],[],[]⟩) (boxes:=[]) mixed (by exact trivial) Tryz.func190 Tryz.call190 rfl rfl rfl (Nat.le_of_ble_eq_true rfl) (by kernel_rfl) h
theorem FH (x:TEncl):Sp 190 [x.av] [] (yY x 90000000).1.av []:=zcA x _ _ ⟨_,_,_,za6 x,rfl,rfl⟩
def D0 (start speed:Int) (w:TEncl) (S:SpecF) (_Fr:FreshF) (_Sq:SeqF) (Q:yc):Prop :=
 ∃n0,S 165 [iN (wrap i64 (speed*w.Lo)),iN 8640000] [] (iN n0) []/\∃n2,S 166 [iN (wrap i64 (speed*w.Hi)),iN 8640000] [] (iN n2) []/\∃n4 n5,S 187 [AV.agg [iN (wrap i64 (start+n0)),iN (wrap i64 (start+n2))]] [] (.agg [iN n4,iN n5]) []/\Q (.agg [iN n4,iN n5]) []
theorem zcs (start:Int) (speed:Int) (w:TEncl) (v:AV) (O:List (List AV)) (h:D0 start speed w Sp Fo So (fun r O'=>r=v/\O'=O)):Sp 182 [iN start,iN speed,w.av] [] v O :=
 yb (w:=⟨[],[],[],[],[]⟩) (k:=0) (keep:=⟨[0,1,2,5,6],[],[],[]⟩) (boxes:=[]) mixed (by exact trivial) Tryz.func182 Tryz.call182 rfl rfl rfl (Nat.le_of_ble_eq_true rfl) (by kernel_rfl) h
theorem FD (start speed:Int) (w:TEncl):Sp 182 [.int .i64 start,.int .i64 speed,w.av] [] (Xs (jN (yL w speed 8640000) start)).av []:=zcs start speed w _ _ (by
 have k:=FF (jN (yL w speed 8640000) start);unfold jN at k;rw[Int.add_comm _ start,Int.add_comm _ start] at k;exact⟨_,Qf _ _ (by decide),_,OV w speed _ (by decide),_,_,k,by unfold jN;rw[Int.add_comm _ start,Int.add_comm _ start];rfl,rfl⟩)
def D8 (s:TEncl) (S:SpecF) (_Fr:FreshF) (_Sq:SeqF) (Q:yc):Prop :=
 ∃n0 n1 n2,S 215 [s.av] [] (.tup [AV.agg [iN n0,iN n1],iN n2]) []/\∃n4 n5,S 190 [AV.agg [iN n0,iN n1]] [] (.agg [iN n4,iN n5]) []/\Q (.agg [iN n4,iN n5]) []
theorem zcB (s:TEncl) (v:AV) (O:List (List AV)) (h:D8 s Sp Fo So (fun r O'=>r=v/\O'=O)):Sp 191 [s.av] [] v O :=
 yb (w:=⟨[],[],[],[],[]⟩) (k:=0) (keep:=⟨[0,1,2,3],[],[],[]⟩) (boxes:=[]) mixed (by exact trivial) Tryz.func191 Tryz.call191 rfl rfl rfl (Nat.le_of_ble_eq_true rfl) (by kernel_rfl) h
theorem zaV (s:TEncl):Sp 191 [s.av] [] (yY (xp s).1 90000000).1.av []:=zcB s _ _ ⟨_,_,_,za7 s,_,_,FH _,rfl,rfl⟩
def DR (n:Int) (_S:SpecF) (_Fr:FreshF) (_Sq:SeqF) (Q:yc):Prop :=
 Q (.agg [iN n,iN n]) []
theorem zcb (n:Int) (v:AV) (O:List (List AV)) (h:DR n Sp Fo So (fun r O'=>r=v/\O'=O)):Sp 164 [iN n] [] v O :=
 yb (w:=⟨[],[],[],[],[]⟩) (k:=0) (keep:=⟨[0,2],[],[],[]⟩) (boxes:=[]) mixed (by exact trivial) Tryz.func164 Tryz.call164 rfl rfl rfl (Nat.le_of_ble_eq_true rfl) (by kernel_rfl) h
theorem Ji (n:Int):Sp 164 [.int .i64 n] [] (TEncl.mk n n).av []:=zcb n _ _ ⟨rfl,rfl⟩
theorem M6 (x y:TEncl):q8 (q8 ⟨0,0⟩ x) y=q8 x y:=by
 unfold q8;dsimp only;obtain ⟨a,e1⟩:=wx (0+x.Lo);obtain ⟨b,e2⟩:=wx (0+x.Hi);rw[e1,e2];congr 1<;>exact wq (by omega)
theorem Ie (x:TEncl):inE (Xs x):=JR _ _
theorem NO (w:TEncl):q8 (yL (yY (kY w) 0).1 1915000 100000000) (yL (yY (yL (kY w) 2 1) 0).1 20000 100000000)=wa w:=by
 unfold wa wu xH;rw[KL (x:=kY w) (Ie _)];exact(M6 _ _).symm
theorem LK (w:TEncl):Xs (K8 (q8 (U7 w) (wa w)) 10000)=xm w:=by
 unfold xm wu;congr 1;show _=q8 (q8 (q8 ⟨0,0⟩ _) _) kQ;rw[M6];rfl
theorem MK (w:TEncl):(⟨wrap i64 (23439000+qM (wrap i64 (-36*w.Hi)) 8640000),wrap i64 (23439000+wrap i64 (0-qM (wrap i64 (0-wrap i64 (-36*w.Lo))) 8640000))⟩:TEncl)=Xq w:=by
 unfold Xq jN ql yL;dsimp only;rw[show wrap i64 (0-36) = -36 from rfl,Gb,show (0:Int) - -36*w.Lo=36*w.Lo by omega];generalize qM (wrap i64 (36*w.Lo)) 8640000=a;generalize qM (wrap i64 (-36*w.Hi)) 8640000=b;obtain ⟨k1,e1⟩:=wx (0-wrap i64 (0-b));obtain ⟨k2,e2⟩:=wx (0-b);obtain ⟨k3,e3⟩:=wx (0-a);rw[e1,e2,e3];congr 1<;>exact wq (by omega)
theorem LN (a b c:TEncl):K8 (dfE (dfE a b) c) 10000=wu [a,ql b,ql c,kQ]:=by
 unfold wu;show _=q8 (q8 (q8 (q8 ⟨0,0⟩ a) _) _) kQ;rw[M6];unfold K8 dfE q8 ql kQ;dsimp only;obtain ⟨k1,e1⟩:=wx (a.Lo-b.Hi);obtain ⟨k2,e2⟩:=wx (a.Hi-b.Lo);obtain ⟨k3,e3⟩:=wx (0-b.Hi);obtain ⟨k4,e4⟩:=wx (0-b.Lo);obtain ⟨k5,e5⟩:=wx (0-c.Hi);obtain ⟨k6,e6⟩:=wx (0-c.Lo);rw[e1,e2,e3,e4,e5,e6];obtain ⟨j1,f1⟩:=wx (a.Lo-b.Hi+18446744073709551616*k1-c.Hi);obtain ⟨j2,f2⟩:=wx (a.Hi-b.Lo+18446744073709551616*k2-c.Lo);obtain ⟨j3,f3⟩:=wx (a.Lo+(0-b.Hi+18446744073709551616*k3));obtain ⟨j4,f4⟩:=wx (a.Hi+(0-b.Lo+18446744073709551616*k4));rw[f1,f2,f3,f4];obtain ⟨l1,g1⟩:=wx (a.Lo+(0-b.Hi+18446744073709551616*k3)+18446744073709551616*j3+(0-c.Hi+18446744073709551616*k5));obtain ⟨l2,g2⟩:=wx (a.Hi+(0-b.Lo+18446744073709551616*k4)+18446744073709551616*j4+(0-c.Lo+18446744073709551616*k6));rw[g1,g2];congr 1<;>exact wq (by omega)
def Gu (w:TEncl) (S:SpecF) (_Fr:FreshF) (_Sq:SeqF) (Q:yc):Prop :=
 ∃n0 n1,S 182 [iN 357528000,iN 98560028,w.av] [] (.agg [iN n0,iN n1]) []/\∃n3 n4,S 182 [iN 280459000,iN 98564736,w.av] [] (.agg [iN n3,iN n4]) []/\∃n6 n7,S 185 [AV.agg [iN n0,iN n1]] [] (.agg [iN n6,iN n7]) []/\∃n9 n10,S 184 [iN 1915000,.agg [iN n6,iN n7]] [] (.agg [iN n9,iN n10]) []/\∃n12 n13,S 186 [AV.agg [iN n0,iN n1],iN 2] [] (.agg [iN n12,iN n13]) []/\∃n15 n16,S 185 [AV.agg [iN n12,iN n13]] [] (.agg [iN n15,iN n16]) []/\∃n18 n19,S 184 [iN 20000,.agg [iN n15,iN n16]] [] (.agg [iN n18,iN n19]) []/\∃n21 n22,S 183 [AV.agg [iN n9,iN n10],.agg [iN n18,iN n19]] [] (.agg [iN n21,iN n22]) []/\∃n24 n25,S 183 [AV.agg [iN n3,iN n4],.agg [iN n21,iN n22]] [] (.agg [iN n24,iN n25]) []/\∃n27 n28,S 188 [AV.agg [iN n24,iN n25],iN 10000] [] (.agg [iN n27,iN n28]) []/\∃n30 n31,S 187 [AV.agg [iN n27,iN n28]] [] (.agg [iN n30,iN n31]) []/\∃n33,S 165 [iN (wrap i64 ((-36:Int)*w.Hi)),iN 8640000] [] (iN n33) []/\∃n35,S 166 [iN (wrap i64 ((-36:Int)*w.Lo)),iN 8640000] [] (iN n35) []/\∃n37 n38,S 185 [AV.agg [iN (wrap i64 ((23439000:Int)+n33)),iN (wrap i64 ((23439000:Int)+n35))]] [] (.agg [iN n37,iN n38]) []/\∃n40 n41,S 185 [AV.agg [iN n30,iN n31]] [] (.agg [iN n40,iN n41]) []/\∃n43 n44 n45,S 189 [AV.agg [iN n37,iN n38],.agg [iN n40,iN n41]] [] (.tup [AV.agg [iN n43,iN n44],iN n45]) []/\∃n47 n48,S 186 [AV.agg [iN n30,iN n31],iN 2] [] (.agg [iN n47,iN n48]) []/\∃n50 n51,S 185 [AV.agg [iN n47,iN n48]] [] (.agg [iN n50,iN n51]) []/\∃n53 n54,S 184 [iN 2466000,.agg [iN n50,iN n51]] [] (.agg [iN n53,iN n54]) []/\∃n56 n57,S 163 [AV.agg [iN n53,iN n54],.agg [iN n21,iN n22]] [] (.agg [iN n56,iN n57]) []/\∃n59 n60,S 186 [AV.agg [iN n30,iN n31],iN 4] [] (.agg [iN n59,iN n60]) []/\∃n62 n63,S 185 [AV.agg [iN n59,iN n60]] [] (.agg [iN n62,iN n63]) []/\∃n65 n66,S 184 [iN 53000,.agg [iN n62,iN n63]] [] (.agg [iN n65,iN n66]) []/\∃n68 n69,S 163 [AV.agg [iN n56,iN n57],.agg [iN n65,iN n66]] [] (.agg [iN n68,iN n69]) []/\∃n71 n72,S 188 [AV.agg [iN n68,iN n69],iN 10000] [] (.agg [iN n71,iN n72]) []/\Q (.tup [AV.agg [iN n43,iN n44],.agg [iN n71,iN n72]]) []
theorem zb7 (w:TEncl) (v:AV) (O:List (List AV)) (h:Gu w Sp Fo So (fun r O'=>r=v/\O'=O)):Sp 160 [w.av] [] v O :=
 yb (w:=⟨[],[],[],[],[]⟩) (k:=0) (keep:=⟨[0,1,2,3,4,5,6,7,8,9,11],[],[],[]⟩) (boxes:=[]) mixed (by exact trivial) Tryz.func160 Tryz.call160 rfl rfl rfl (Nat.le_of_ble_eq_true rfl) (by kernel_rfl) h
theorem zaO (w:TEncl):Sp 160 [w.av] [] (.tup [(jj w).sin.av,(jj w).equation.av]) []:=zb7 w _ _ (by
 unfold Gu;have kc:=FE (yL (yY (kY w) 0).1 1915000 100000000) (yL (yY (yL (kY w) 2 1) 0).1 20000 100000000);rw[NO] at kc;have kl:=FF (K8 (q8 (U7 w) (wa w)) 10000);rw[LK] at kl;have kt:=Qj ⟨wrap i64 (23439000+qM (wrap i64 (-36*w.Hi)) 8640000),wrap i64 (23439000+wrap i64 (0-qM (wrap i64 (0-wrap i64 (-36*w.Lo))) 8640000))⟩;have ks:Sp 189 [(yY (Xq w) 0).1.av,(yY (xm w) 0).1.av] [] (.tup [(jj w).sin.av,.int .i64 (jE (yY (Xq w) 0).1 (yY (xm w) 0).1).2]) []:=Hf _ _;have ke:=FG (dfE (dfE (yL (yY (yL (xm w) 2 1) 0).1 2466000 100000000) (wa w)) (yL (yY (yL (xm w) 4 1) 0).1 53000 100000000)) 10000;rw[LN] at ke;have ha:Sp 182 [.int .i64 357528000,.int .i64 98560028,w.av] [] (kY w).av []:=FD _ _ _;have hl:Sp 182 [.int .i64 280459000,.int .i64 98564736,w.av] [] (U7 w).av []:=FD _ _ _;refine⟨_,_,ha,_,_,hl,_,_,Qj (kY w),_,_,Jk _ _,_,_,He (kY w) 2,_,_,Qj _,_,_,Jk _ _,_,_,kc,_,_,FE (U7 w) (wa w),_,_,FG _ _,_,_,kl,?_⟩;refine⟨_,Qf _ _ (by decide),_,Hb _ _ (by decide),_,_,kt,?_⟩;rw[MK];exact⟨_,_,Qj (xm w),_,_,_,ks,_,_,He (xm w) 2,_,_,Qj _,_,_,Jk _ _,_,_,NK _ (wa w),_,_,He (xm w) 4,_,_,Qj _,_,_,Jk _ _,_,_,NK _ _,_,_,ke,rfl,rfl⟩)
end Go.Proofs.YtkojpnkknehhmaaGreatDoor

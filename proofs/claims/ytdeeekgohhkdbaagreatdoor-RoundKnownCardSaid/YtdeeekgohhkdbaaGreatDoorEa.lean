/- Contracts: sines. -/
import Derived.Test.YtdeeekgohhkdbaaGreatDoorB
namespace Go.Proofs.YtdeeekgohhkdbaaGreatDoor
open Go.IntKind (wrap i64 u64)
open Go.RowKit
def piN:Nat:=267257146016241686964920093290467695825
def oneN:Nat:=85070591730234615865843651857942052864
def MK (sq k s:Nat):Nat:=(oneN+340282366920938463463374607431768211456-tim sq s*1 / (2*(k+1)*(2*(k+1)+1))) % 340282366920938463463374607431768211456
def Pe (f:Nat->Nat->Nat):Nat->Nat->Nat
 |0,s=>s
 |k+1,s=>Pe f k (f k s)
theorem IX (f:Nat->Nat->Nat) (k s:Nat):Pe f (k+1) s=Pe f k (f k s):=rfl
theorem IW (f:Nat->Nat->Nat) (s:Nat):Pe f 0 s=s:=rfl
def Py (sq k s:Nat):Nat:=Pe (MK sq) k s
def xN (a:Nat):Nat:=piN*a / 180000000
def stN (a:Nat):Nat:=tim (xN a) (Py (tim (xN a) (xN a)) 17 oneN)
def yQ (a:Nat):Nat × Bool:=if a=0 then (0,true) else if a=30000000 then (50000000,true) else if a=90000000 then (100000000,true) else (stN a*100000000 / 85070591730234615865843651857942052864,false)
theorem Fc (n:Nat):n % 340282366920938463463374607431768211456<340282366920938463463374607431768211456:=Nat.mod_lt _ (by omega)
theorem Iq (sq k s:Nat):MK sq k s<340282366920938463463374607431768211456:=by unfold MK;exact Fc _
theorem Fs (a:Nat):stN a<340282366920938463463374607431768211456:=by unfold stN;exact QP _ _
theorem zak {s:Nat} (h:s<340282366920938463463374607431768211456):s*100000000 / 85070591730234615865843651857942052864<=400000000:=by omega
theorem SS (a:Nat):(yQ a).1<=400000000:=by
 unfold yQ;split
 ·exact Nat.zero_le _
 ·split
  ·exact zt_ rfl
  ·split
   ·exact zt_ rfl
   ·exact zak (Fs a)
theorem GQ {p a:Nat} (h:a<=180000000):p*a / 180000000<=p:=by
 apply Nat.div_le_of_le_mul;rw[Nat.mul_comm 180000000];exact Nat.mul_le_mul_left _ h
theorem JS:piN<340282366920938463463374607431768211456:=by unfold piN;omega
theorem MF:oneN<340282366920938463463374607431768211456:=by unfold oneN;omega
theorem zap {a:Nat} (h:a<=180000000):xN a<340282366920938463463374607431768211456:=by
 unfold xN;exact Nat.lt_of_le_of_lt (GQ h) JS
theorem DI:(fx piN).av=.agg [.int .u64 14488038916154245684,.int .u64 14179128828124470481]:=by kernel_rfl
theorem Jb:(fx oneN).av=.agg [.int .u64 4611686018427387904,.int .u64 0]:=by kernel_rfl
def F3 (a:Int) (S:SpecF) (_Fr:FreshF) (_Sq:SeqF) (Q:ym):Prop :=
 ((a == 0)=true->Q (.tup [iN 0,.bool true]) [])/\((a == 0)=false->((a == 30000000)=true->Q (.tup [iN 50000000,.bool true]) [])/\((a == 30000000)=false->((a == 90000000)=true->Q (.tup [iN 100000000,.bool true]) [])/\((a == 90000000)=false->∃n6 n7,S 191 [AV.agg [AV.int u64 (14488038916154245684:Int),.int u64 (14179128828124470481:Int)],.int u64 (wrap u64 a),.int u64 (180000000:Int)] [] (.agg [AV.int u64 n6,.int u64 n7]) []/\∃n9 n10,S 192 [AV.agg [AV.int u64 n6,.int u64 n7],.agg [AV.int u64 n6,.int u64 n7]] [] (.agg [AV.int u64 n9,.int u64 n10]) []/\∃(I12:Nat->List AV->Prop),(∃m14,I12 m14 [AV.int u64 (17:Int),.agg [AV.int u64 (4611686018427387904:Int),.int u64 (0:Int)]])/\∀(m14:Nat) (n15 n16 n17:Int),I12 m14 [AV.int u64 n15,.agg [AV.int u64 n16,.int u64 n17]]->(decide (n15>0)=true->∃n21 n22,S 192 [AV.agg [AV.int u64 n9,.int u64 n10],.agg [AV.int u64 n16,.int u64 n17]] [] (.agg [AV.int u64 n21,.int u64 n22]) []/\∃n24 n25,S 191 [AV.agg [AV.int u64 n21,.int u64 n22],.int u64 (1:Int),.int u64 (wrap u64 (wrap u64 ((2:Int)*n15)*wrap u64 (wrap u64 ((2:Int)*n15)+1)))] [] (.agg [AV.int u64 n24,.int u64 n25]) []/\∃n27 n28,S 193 [AV.agg [AV.int u64 (4611686018427387904:Int),.int u64 (0:Int)],.agg [AV.int u64 n24,.int u64 n25]] [] (.agg [AV.int u64 n27,.int u64 n28]) []/\yn [AV.int u64 n6,.int u64 n7]/\yn [AV.int u64 n9,.int u64 n10]/\yn [AV.lit u64 (4611686018427387904:Int),.lit u64 (0:Int)]/\∃k33,k33<m14/\I12 k33 [AV.int u64 (wrap u64 (n15-1)),.agg [AV.int u64 n27,.int u64 n28]])/\(decide (n15>0)=false->∃n21 n22,S 192 [AV.agg [AV.int u64 n6,.int u64 n7],.agg [AV.int u64 n16,.int u64 n17]] [] (.agg [AV.int u64 n21,.int u64 n22]) []/\∃n24,S 194 [AV.agg [AV.int u64 n21,.int u64 n22]] [] (iN n24) []/\Q (.tup [iN n24,.bool false]) []))))
theorem zcN (a:Int) (v:AV) (O:List (List AV)) (h:F3 a Sp Fo So (fun r O'=>r=v/\O'=O)):Sp 188 [iN a] [] v O :=
 yj (w:=⟨[],[],[],[],[]⟩) (k:=0) (keep:=⟨[0,2,3,4,5,6,7,8,9,10,12,14,26],[⟨13,[(8,.int .u64 0)],[],[(7,.agg [.int .u64 0,.int .u64 0])],[],[],[]⟩],[],[]⟩) (boxes:=[]) mixed (by exact trivial) Tryz.func188 Tryz.call188 rfl rfl rfl (Nat.le_of_ble_eq_true rfl) (by kernel_rfl) h
theorem zbz (a:Nat) (ha:a<=180000000):Sp 188 [.int .i64 a] [] (.tup [.int .i64 ((yQ a).1:Nat),.bool (yQ a).2]) []:=zcN a _ _ (by
 unfold F3;refine⟨fun h=>⟨?_,rfl⟩,fun h0=>⟨fun h=>⟨?_,rfl⟩,fun h1=>⟨fun h=>⟨?_,rfl⟩,fun h2=>?_⟩⟩⟩
 ·have h:a=0:=by simpa using h
  subst h;rfl
 ·have h:a=30000000:=by simp at h;omega
  subst h;rfl
 ·have h:a=90000000:=by simp at h;omega
  subst h;rfl
 have h0:a≠0:=by simpa using h0
 have h1:a≠30000000:=by simp at h1;omega
 have h2:a≠90000000:=by simp at h2;omega
 have e:yQ a=(stN a*100000000 / 85070591730234615865843651857942052864,false):=by unfold yQ;rw[if_neg h0,if_neg h1,if_neg h2]
 rw[e];have k1:=DC piN a 180000000 JS ha (by omega) (by omega);rw[DI,show piN*a / 180000000=xN a from rfl] at k1;obtain ⟨x,ex⟩:∃x,x=xN a:=⟨_,rfl⟩;have hx:x<340282366920938463463374607431768211456:=by rw[ex];exact zap ha
 rw[<- ex] at k1;obtain ⟨sq,esq⟩:∃s,s=tim x x:=⟨_,rfl⟩;have k2:=GL x x hx hx;have hsq:=QP x x;rw[<- esq] at k2 hsq;obtain ⟨r,er⟩:∃r,r=Py sq 17 oneN:=⟨_,rfl⟩;obtain ⟨st,est⟩:∃st,st=stN a:=⟨_,rfl⟩;have hst:st=tim x r:=by rw[est,er,esq,ex];rfl
 rw[<- est];refine⟨_,_,by rw[jk (by omega)];exact k1,_,_,k2,?_⟩;clear k1 k2 est esq ex e;refine⟨fun m vs=>∃k s:Nat,k<=17/\s<340282366920938463463374607431768211456/\m=k/\vs=[.int .u64 k,(fx s).av]/\Py sq k s=r,⟨17,17,oneN,by omega,MF,rfl,by rw[Jb];rfl,er.symm⟩,?_⟩;rintro m n15 n16 n17 ⟨k,s,hk,hs,rfl,hv,hh⟩;have hv':=hv;unfold TFixed.av TFixed.cs at hv';simp only[List.cons.injEq,AV.int.injEq,true_and,AV.agg.injEq,and_true] at hv';obtain ⟨rfl,rfl,rfl⟩:=hv';refine⟨fun g=>?_,fun g=>?_⟩
 ·have hk0:0<m:=by simpa using g
  obtain ⟨j,rfl⟩:∃j,m=j+1:=⟨m-1,by omega⟩;have b1:2*(j+1)*(2*(j+1)+1)<=34*35:=Nat.mul_le_mul (by omega) (by omega);have b2:1*1<=2*(j+1)*(2*(j+1)+1):=Nat.mul_le_mul (by omega) (by omega);have eD:IntKind.u64.wrap (wrap u64 ((2:Int)*((j+1:Nat):Int))*wrap u64 (wrap u64 ((2:Int)*((j+1:Nat):Int))+1))=((2*(j+1)*(2*(j+1)+1):Nat):Int):=by
   rw[show (2:Int)*((j+1:Nat):Int)=((2*(j+1):Nat):Int) by omega,jk (n:=2*(j+1)) (by omega),show ((2*(j+1):Nat):Int)+1=((2*(j+1)+1:Nat):Int) by omega,jk (n:=2*(j+1)+1) (by omega),<- Int.natCast_mul,jk (Nat.lt_of_le_of_lt b1 (by decide))]
  have ht:=QP sq s;have k2:=DC (tim sq s) 1 (2*(j+1)*(2*(j+1)+1)) ht b2 b2 (Nat.lt_of_le_of_lt b1 (by decide));have hle:tim sq s*1 / (2*(j+1)*(2*(j+1)+1))<340282366920938463463374607431768211456:=Nat.lt_of_le_of_lt (Nat.div_le_self _ _) (by rw[Nat.mul_one];exact ht);have k3:=zbA oneN _ MF hle;rw[Jb,show (oneN+340282366920938463463374607431768211456-tim sq s*1 / (2*(j+1)*(2*(j+1)+1))) % 340282366920938463463374607431768211456=MK sq j s from rfl] at k3;refine⟨_,_,GL sq s hsq hs,_,_,by rw[eD];exact k2,_,_,k3,by trivial,by trivial,by trivial,j,by omega,j,_,by omega,Iq sq j s,rfl,?_,?_⟩
  ·rw[show (((j+1:Nat):Int)-1)=(j:Int) by omega,jk (by omega)];rfl
  ·rw[<- hh];unfold Py;rw[IX]
 ·have hk0:m=0:=by simp at g;omega
  subst hk0;have hh:s=r:=by unfold Py at hh;rw[IW] at hh;exact hh
  subst hh;have k4:=GL x s hx hs;rw[<- hst] at k4;have k5:=zbB st (by rw[hst];exact QP _ _);exact⟨_,_,k4,_,k5,rfl,by trivial⟩)
def xF (e:TEncl):TEncl:=⟨wrap i64 (0-e.Hi),wrap i64 (0-e.Lo)⟩
def zaT (x:TEncl) (_S:SpecF) (_Fr:FreshF) (_Sq:SeqF) (Q:ym):Prop :=
 Q (.agg [iN (wrap i64 ((0:Int)-x.Hi)),iN (wrap i64 ((0:Int)-x.Lo))]) []
theorem zcO (x:TEncl) (v:AV) (O:List (List AV)) (h:zaT x Sp Fo So (fun r O'=>r=v/\O'=O)):Sp 189 [x.av] [] v O :=
 yj (w:=⟨[],[],[],[],[]⟩) (k:=0) (keep:=⟨[0,1,2],[],[],[]⟩) (boxes:=[]) mixed (by exact trivial) Tryz.func189 Tryz.call189 rfl rfl rfl (Nat.le_of_ble_eq_true rfl) (by kernel_rfl) h
theorem DB (e:TEncl):Sp 189 [e.av] [] (xF e).av []:=zcO e _ _ ⟨rfl,rfl⟩
def xO (a:Int):Int:=(a.tmod 360000000+360000000).tmod 360000000
theorem Ot (a:Int):0<=xO a/\xO a<360000000:=by
 unfold xO;have h1:=Int.tmod_lt_of_pos a (b:=360000000) (by omega);have h2:=Int.lt_tmod_of_pos a (b:=360000000) (by omega);rw[Int.tmod_eq_emod_of_nonneg (by omega)];omega
def qR (a:Int):Nat:=(if 180000000-(xO a).tmod 180000000<(xO a).tmod 180000000 then 180000000-(xO a).tmod 180000000 else (xO a).tmod 180000000).toNat
theorem K6 (a:Int):qR a<=90000000/\(qR a:Int)=if 180000000-(xO a).tmod 180000000<(xO a).tmod 180000000 then 180000000-(xO a).tmod 180000000 else (xO a).tmod 180000000:=by
 have h:=Ot a;unfold qR;rw[Int.tmod_eq_emod_of_nonneg h.1];split<;>omega
def upE (p:Nat × Bool):TEncl:=if p.2 then ⟨p.1,p.1⟩ else ⟨p.1,p.1+1⟩
def Wz (a:Int):TEncl:=if 180000000<=xO a then xF (upE (yQ (qR a))) else upE (yQ (qR a))
theorem Fw (a:Nat):0<=(upE (yQ a)).Lo/\(upE (yQ a)).Lo<=(upE (yQ a)).Hi/\(upE (yQ a)).Hi<=400000001:=by
 have h:=SS a;unfold upE;split
 ·exact⟨by show (0:Int)<=((yQ a).1:Nat);omega,Int.le_refl _,by show (((yQ a).1:Nat):Int)<=400000001;omega⟩
 ·refine⟨?_,?_,?_⟩
  ·show (0:Int)<=((yQ a).1:Nat);omega
  ·show (((yQ a).1:Nat):Int)<=((yQ a).1:Nat)+1;omega
  ·show (((yQ a).1:Nat):Int)+1<=400000001;omega
def FY (a:Int) (S:SpecF) (_Fr:FreshF) (_Sq:SeqF) (Q:ym):Prop :=
 ∃n0 b1,S 188 [iN (if IntKind.i64.wrap ((180000000:Int)-((wrap i64 (a.tmod (360000000:Int)+(360000000:Int))).tmod (360000000:Int)).tmod (180000000:Int))<((wrap i64 (a.tmod (360000000:Int)+(360000000:Int))).tmod (360000000:Int)).tmod (180000000:Int) then wrap i64 ((180000000:Int)-((wrap i64 (a.tmod (360000000:Int)+(360000000:Int))).tmod (360000000:Int)).tmod (180000000:Int)) else ((wrap i64 (a.tmod (360000000:Int)+(360000000:Int))).tmod (360000000:Int)).tmod (180000000:Int))] [] (.tup [iN n0,.bool b1]) []/\((!b1)=true->(decide ((wrap i64 (a.tmod (360000000:Int)+(360000000:Int))).tmod (360000000:Int)>=(180000000:Int))=true->∃n7 n8,S 189 [AV.agg [iN n0,iN (wrap i64 (n0+1))]] [] (.agg [iN n7,iN n8]) []/\Q (.agg [iN n7,iN n8]) [])/\(decide ((wrap i64 (a.tmod (360000000:Int)+(360000000:Int))).tmod (360000000:Int)>=(180000000:Int))=false->Q (.agg [iN n0,iN (wrap i64 (n0+1))]) []))/\((!b1)=false->(decide ((wrap i64 (a.tmod (360000000:Int)+(360000000:Int))).tmod (360000000:Int)>=(180000000:Int))=true->∃n7 n8,S 189 [AV.agg [iN n0,iN n0]] [] (.agg [iN n7,iN n8]) []/\Q (.agg [iN n7,iN n8]) [])/\(decide ((wrap i64 (a.tmod (360000000:Int)+(360000000:Int))).tmod (360000000:Int)>=(180000000:Int))=false->Q (.agg [iN n0,iN n0]) []))
theorem zcG (a:Int) (v:AV) (O:List (List AV)) (h:FY a Sp Fo So (fun r O'=>r=v/\O'=O)):Sp 179 [iN a] [] v O :=
 yj (w:=⟨[],[],[],[],[]⟩) (k:=0) (keep:=⟨[0,2,3,4,5,6,27,32],[],[],[]⟩) (boxes:=[]) mixed (by exact trivial) Tryz.func179 Tryz.call179 rfl rfl rfl (Nat.le_of_ble_eq_true rfl) (by kernel_rfl) h
theorem IH (a:Int):Sp 179 [.int .i64 a] [] (Wz a).av []:=zcG a _ _ (by
 unfold FY;have h:=Ot a;have ht:(wrap i64 (a.tmod 360000000+360000000)).tmod 360000000=xO a:=by
  have h1:=Int.tmod_lt_of_pos a (b:=360000000) (by omega);have h2:=Int.lt_tmod_of_pos a (b:=360000000) (by omega);rw[zw6 (by omega)];rfl
 rw[ht];obtain ⟨f1,f2⟩:=K6 a;have hw:IntKind.i64.wrap (180000000-(xO a).tmod 180000000)=180000000-(xO a).tmod 180000000:=by
  rw[Int.tmod_eq_emod_of_nonneg h.1];exact zw6 (by omega)
 rw[hw,<- f2];have hs:=zbz (qR a) (by omega);have hle:=SS (qR a);have hu:=Fw (qR a);have hw1:IntKind.i64.wrap ((((yQ (qR a)).1:Nat):Int)+1)=((yQ (qR a)).1:Nat)+1:=zw6 (by omega);unfold Wz;refine⟨_,_,hs,fun hb=>⟨fun g=>?_,fun g=>?_⟩,fun hb=>⟨fun g=>?_,fun g=>?_⟩⟩
 ·have hb:(yQ (qR a)).2=false:=by simpa using hb
  rw[if_pos (zt_ g)];have e:upE (yQ (qR a))=⟨((yQ (qR a)).1:Nat),((yQ (qR a)).1:Nat)+1⟩:=by unfold upE;rw[hb];rfl
  rw[hw1,e];exact⟨_,_,DB ⟨((yQ (qR a)).1:Nat),((yQ (qR a)).1:Nat)+1⟩,rfl,rfl⟩
 ·have hb:(yQ (qR a)).2=false:=by simpa using hb
  rw[if_neg (zf_ g)];have e:upE (yQ (qR a))=⟨((yQ (qR a)).1:Nat),((yQ (qR a)).1:Nat)+1⟩:=by unfold upE;rw[hb];rfl
  rw[hw1,e];exact⟨rfl,rfl⟩
 ·have hb:(yQ (qR a)).2=true:=by simpa using hb
  rw[if_pos (zt_ g)];have e:upE (yQ (qR a))=⟨((yQ (qR a)).1:Nat),((yQ (qR a)).1:Nat)⟩:=by unfold upE;rw[hb];rfl
  rw[e];exact⟨_,_,DB ⟨((yQ (qR a)).1:Nat),((yQ (qR a)).1:Nat)⟩,rfl,rfl⟩
 ·have hb:(yQ (qR a)).2=true:=by simpa using hb
  rw[if_neg (zf_ g)];have e:upE (yQ (qR a))=⟨((yQ (qR a)).1:Nat),((yQ (qR a)).1:Nat)⟩:=by unfold upE;rw[hb];rfl
  rw[e];exact⟨rfl,rfl⟩)
def Si (x y:TEncl):TEncl:=⟨if y.Lo<x.Lo then y.Lo else x.Lo,if y.Hi>x.Hi then y.Hi else x.Hi⟩
theorem yx {n:Nat} (h:n<9223372036854775807):IntKind.i64.wrap ((n:Int)+1)=((n+1:Nat):Int):=zw6 (by omega)
theorem yH {α β:Type} {f:α->β} {l:List α} {k:Nat} (h:k<l.length):∃x,l[k]? = some x/\(l.map f)[((k:Nat):Int).toNat]? = some (f x):=by
 refine⟨l[k],List.getElem?_eq_getElem h,?_⟩;rw[Int.toNat_natCast,List.getElem?_map,List.getElem?_eq_getElem h];rfl
theorem X1 {α β:Type} (g:β->α->β) (z:β) {l:List α} {k:Nat} {x:α} (h:l[k]? = some x):(l.take (k+1)).foldl g z=g ((l.take k).foldl g z) x:=by
 rw[List.take_add_one,h,List.foldl_append];rfl
def F2 (x:TEncl) (l:List TEncl) (_S:SpecF) (_Fr:FreshF) (_Sq:SeqF) (Q:ym):Prop :=
 ∃(I0:Nat->List AV->Prop),(∃m2,I0 m2 [iN 0,x.av])/\∀(m2:Nat) (n3 n4 n5:Int),I0 m2 [iN n3,.agg [iN n4,iN n5]]->(decide (n3<(↑(List.map TEncl.av l).length:Int))=true->∃n9 n10,((0:Int)<=n3/\(2:Nat)=(2:Nat)/\(List.map TEncl.av l)[n3.toNat]? = some (.agg [iN n9,iN n10]))/\TEncl.z0=TEncl.z0/\∃k13,k13<m2/\I0 k13 [iN (wrap i64 (n3+1)),.agg [iN (if n9<n4 then n9 else n4),iN (if n10>n5 then n10 else n5)]])/\(decide (n3<(↑(List.map TEncl.av l).length:Int))=false->Q (.agg [iN n4,iN n5]) [])
theorem zcM (x:TEncl) (l:List TEncl) (v:AV) (O:List (List AV)) (h:F2 x l Sp Fo So (fun r O'=>r=v/\O'=O)):Sp 187 [x.av,.slc 3 (List.map TEncl.av l)] [] v O :=
 yj (w:=⟨[],[],[],[],[]⟩) (k:=0) (keep:=⟨[0,1,2,4,6,7,8,9,10],[⟨2,[(9,iN 0)],[],[(2,.agg [iN 0,iN 0])],[],[],[]⟩],[],[]⟩) (boxes:=[]) mixed (by exact trivial) Tryz.func187 Tryz.call187 rfl rfl rfl (Nat.le_of_ble_eq_true rfl) (by kernel_rfl) h
theorem GJ (x:TEncl) (l:List TEncl) (hl:l.length<=1000000):Sp 187 [x.av,.slc 3 (l.map TEncl.av)] [] (l.foldl Si x).av []:=zcM x l _ _ (by
 unfold F2;refine⟨fun m vs=>∃k:Nat,k<=l.length/\m=l.length-k/\vs=[.int .i64 k,((l.take k).foldl Si x).av],⟨_,0,by omega,rfl,rfl⟩,?_⟩;rintro m n3 n4 n5 ⟨k,hk,rfl,hv⟩;generalize he:(l.take k).foldl Si x=e at hv;have hv':=hv;unfold TEncl.av TEncl.cs at hv';simp only[List.cons.injEq,AV.int.injEq,true_and,AV.agg.injEq,and_true] at hv';obtain ⟨rfl,rfl,rfl⟩:=hv';simp only[List.length_map];refine⟨fun g=>?_,fun g=>?_⟩
 ·have hlt:k<l.length:=by simpa using g
  obtain ⟨y,hy,hy'⟩:=yH (f:=TEncl.av) hlt;refine⟨y.Lo,y.Hi,⟨by omega,by trivial,hy'⟩,by trivial,_,(by omega:l.length-(k+1)<l.length-k),k+1,by omega,rfl,?_⟩;rw[yx (by omega),X1 Si x hy,he];rfl
 ·obtain rfl:k=l.length:=by simp at g;omega
  rw[List.take_length] at he;subst he;exact⟨rfl,by trivial⟩)
def JL (b v:Int):Int:=wrap i64 (v+(wrap i64 ((wrap i64 (b-v)).tmod 360000000+360000000)).tmod 360000000)
def zaU (b v0:Int) (_S:SpecF) (_Fr:FreshF) (_Sq:SeqF) (Q:ym):Prop :=
 Q (iN (wrap i64 (v0+(wrap i64 ((wrap i64 (b-v0)).tmod (360000000:Int)+(360000000:Int))).tmod (360000000:Int)))) [[iN v0]]
theorem zcP (b:Int) (v0:Int) (v:AV) (O:List (List AV)) (h:zaU b v0 Sp Fo So (fun r O'=>r=v/\O'=O)):Sp 190 [iN b,.ref 0 0] [[iN v0]] v O :=
 yj (w:=⟨[],[],[],[],[]⟩) (k:=0) (keep:=⟨[0,1,3],[],[],[]⟩) (boxes:=[⟨3,false,[iN v0]⟩]) mixed (by exact trivial) Tryz.func190 Tryz.call190 rfl rfl rfl (Nat.le_of_ble_eq_true rfl) (by kernel_rfl) h
theorem GK (b v:Int):Sp 190 [.int .i64 b,.ref 0 0] [[.int .i64 v]] (.int .i64 (JL b v)) [[.int .i64 v]]:=zcP b v _ _ ⟨rfl,rfl⟩
def vG (x:TEncl) (most:Int):Bool:=decide (x.Lo>x.Hi) || (decide (x.Lo<wrap i64 (0-most)) || decide (x.Hi>most))
def zaN (x:TEncl) (most:Int) (_S:SpecF) (_Fr:FreshF) (_Sq:SeqF) (Q:ym):Prop :=
 (decide (x.Lo>x.Hi)=true->Q (.bool true) [])/\(decide (x.Lo>x.Hi)=false->(decide (x.Lo<wrap i64 ((0:Int)-most))=true->Q (.bool true) [])/\(decide (x.Lo<wrap i64 ((0:Int)-most))=false->Q (.bool (decide (x.Hi>most))) []))
theorem zcC (x:TEncl) (most:Int) (v:AV) (O:List (List AV)) (h:zaN x most Sp Fo So (fun r O'=>r=v/\O'=O)):Sp 173 [x.av,iN most] [] v O :=
 yj (w:=⟨[],[],[],[],[]⟩) (k:=0) (keep:=⟨[0,1,2,4],[],[],[]⟩) (boxes:=[]) mixed (by exact trivial) Tryz.func173 Tryz.call173 rfl rfl rfl (Nat.le_of_ble_eq_true rfl) (by kernel_rfl) h
theorem Ts (x:TEncl) (most:Int):Sp 173 [x.av,.int .i64 most] [] (.bool (vG x most)) []:=zcC x most _ _ (by
 unfold vG;refine⟨fun h=>⟨?_,by trivial⟩,fun h=>⟨fun h2=>⟨?_,by trivial⟩,fun h2=>⟨?_,by trivial⟩⟩⟩
 ·rw[h];rfl
 ·rw[h,h2];rfl
 ·rw[h,h2];rfl)
def zda (c:Bool) (e:TEncl):TEncl:=if c then ⟨e.Lo,100000000⟩ else e
def za6 (c:Bool) (e:TEncl):TEncl:=if c then ⟨-100000000,e.Hi⟩ else e
def Gy (a:TEncl) (more:Int):TEncl :=
 let lo:=wrap i64 (a.Lo+more)
 let hi:=wrap i64 (a.Hi+more)
 za6 (decide (JL 270000000 lo<=hi)) (zda (decide (JL 90000000 lo<=hi)) (Si (Wz lo) (Wz hi)))
def jU (a:TEncl) (more:Int):TEncl × Int:=if vG a 3600000000 then (⟨0,0⟩,7) else (Gy a more,0)
def F0 (a:TEncl) (more:Int) (S:SpecF) (_Fr:FreshF) (_Sq:SeqF) (Q:ym):Prop :=
 ∃b0,S 173 [a.av,iN 3600000000] [] (.bool b0) []/\(b0=true->Q (.tup [TEncl.zero.av,iN 7]) [])/\(b0=false->∃n4 n5,S 179 [iN (wrap i64 (a.Lo+more))] [] (.agg [iN n4,iN n5]) []/\∃n7 n8,S 179 [iN (wrap i64 (a.Hi+more))] [] (.agg [iN n7,iN n8]) []/\∃n10 n11,S 187 [AV.agg [iN n4,iN n5],.slc 3 [AV.agg [iN n7,iN n8]]] [] (.agg [iN n10,iN n11]) []/\∃n13 n14,S 190 [iN 90000000,.ref 0 0] [[iN (wrap i64 (a.Lo+more))]] (iN n13) [[iN n14]]/\(decide (n13<=wrap i64 (a.Hi+more))=true->∃n18 n19,S 190 [iN 270000000,.ref 0 0] [[iN n14]] (iN n18) [[iN n19]]/\(decide (n18<=wrap i64 (a.Hi+more))=true->Q (.tup [AV.agg [iN (-100000000:Int),iN 100000000],iN 0]) [])/\(decide (n18<=wrap i64 (a.Hi+more))=false->Q (.tup [AV.agg [iN n10,iN 100000000],iN 0]) []))/\(decide (n13<=wrap i64 (a.Hi+more))=false->∃n18 n19,S 190 [iN 270000000,.ref 0 0] [[iN n14]] (iN n18) [[iN n19]]/\(decide (n18<=wrap i64 (a.Hi+more))=true->Q (.tup [AV.agg [iN (-100000000:Int),iN n11],iN 0]) [])/\(decide (n18<=wrap i64 (a.Hi+more))=false->Q (.tup [AV.agg [iN n10,iN n11],iN 0]) [])))
theorem zcJ (a:TEncl) (more:Int) (v:AV) (O:List (List AV)) (h:F0 a more Sp Fo So (fun r O'=>r=v/\O'=O)):Sp 183 [a.av,iN more] [] v O :=
 yj (w:=⟨[],[],[],[],[]⟩) (k:=0) (keep:=⟨[0,1,2,4,5,6,7,8,9,11,31,36],[],[],[]⟩) (boxes:=[]) mixed (by exact trivial) Tryz.func183 Tryz.call183 rfl rfl rfl (Nat.le_of_ble_eq_true rfl) (by kernel_rfl) h
theorem DA (a:TEncl) (more:Int):Sp 183 [a.av,.int .i64 more] [] (.tup [(jU a more).1.av,.int .i64 (jU a more).2]) []:=zcJ a more _ _ (by
 unfold F0;refine⟨_,Ts a 3600000000,fun h=>⟨?_,by trivial⟩,fun h=>?_⟩
 ·unfold jU;rw[if_pos h];rfl
 have hj:=GJ (Wz (wrap i64 (a.Lo+more))) [Wz (wrap i64 (a.Hi+more))] (by simp);have e:jU a more=(Gy a more,0):=by unfold jU;rw[h];rfl
 rw[e];refine⟨_,_,IH _,_,_,IH _,_,_,hj,_,_,GK _ _,fun g=>⟨_,_,GK _ _,fun g2=>⟨?_,by trivial⟩,fun g2=>⟨?_,by trivial⟩⟩,fun g=>⟨_,_,GK _ _,fun g2=>⟨?_,by trivial⟩,fun g2=>⟨?_,by trivial⟩⟩⟩;all_goals (unfold Gy;dsimp only;rw[g,g2];rfl))
def zaM (a:TEncl) (S:SpecF) (_Fr:FreshF) (_Sq:SeqF) (Q:ym):Prop :=
 ∃n0 n1 n2,S 183 [a.av,iN 0] [] (.tup [AV.agg [iN n0,iN n1],iN n2]) []/\Q (.tup [AV.agg [iN n0,iN n1],iN n2]) []
theorem zcA (a:TEncl) (v:AV) (O:List (List AV)) (h:zaM a Sp Fo So (fun r O'=>r=v/\O'=O)):Sp 171 [a.av] [] v O :=
 yj (w:=⟨[],[],[],[],[]⟩) (k:=0) (keep:=⟨[0,1,2,3],[],[],[]⟩) (boxes:=[]) mixed (by exact trivial) Tryz.func171 Tryz.call171 rfl rfl rfl (Nat.le_of_ble_eq_true rfl) (by kernel_rfl) h
theorem zbs (a:TEncl):Sp 171 [a.av] [] (.tup [(jU a 0).1.av,.int .i64 (jU a 0).2]) []:=zcA a _ _ ⟨_,_,_,DA a 0,rfl,rfl⟩
def zaP (a:TEncl) (S:SpecF) (_Fr:FreshF) (_Sq:SeqF) (Q:ym):Prop :=
 ∃n0 n1 n2,S 183 [a.av,iN 90000000] [] (.tup [AV.agg [iN n0,iN n1],iN n2]) []/\Q (.tup [AV.agg [iN n0,iN n1],iN n2]) []
theorem zcE (a:TEncl) (v:AV) (O:List (List AV)) (h:zaP a Sp Fo So (fun r O'=>r=v/\O'=O)):Sp 176 [a.av] [] v O :=
 yj (w:=⟨[],[],[],[],[]⟩) (k:=0) (keep:=⟨[0,1,2,3],[],[],[]⟩) (boxes:=[]) mixed (by exact trivial) Tryz.func176 Tryz.call176 rfl rfl rfl (Nat.le_of_ble_eq_true rfl) (by kernel_rfl) h
theorem zbv (a:TEncl):Sp 176 [a.av] [] (.tup [(jU a 90000000).1.av,.int .i64 (jU a 90000000).2]) []:=zcE a _ _ ⟨_,_,_,DA a 90000000,rfl,rfl⟩
end Go.Proofs.YtdeeekgohhkdbaaGreatDoor

/- Contracts: sines. Contracts: sines of all angles, enclosures of sines. Contracts: enclosures of sines and of fractions. -/
import Derived.Test.YtkojpnkknehhmaaGreatDoorB
namespace Go.Proofs.YtkojpnkknehhmaaGreatDoor
open Go.IntKind (wrap i64 u64)
open Go.RowKit
def piN:Nat:=267257146016241686964920093290467695825
def oneN:Nat:=85070591730234615865843651857942052864
def Xp (sq k s:Nat):Nat:=(oneN+340282366920938463463374607431768211456-tim sq s*1 / (2*(k+1)*(2*(k+1)+1))) % 340282366920938463463374607431768211456
def TD (f:Nat->Nat->Nat):Nat->Nat->Nat
 |0,s=>s
 |k+1,s=>TD f k (f k s)
theorem NK (f:Nat->Nat->Nat) (k s:Nat):TD f (k+1) s=TD f k (f k s):=rfl
theorem Iq (f:Nat->Nat->Nat) (s:Nat):TD f 0 s=s:=rfl
def Ym (sq k s:Nat):Nat:=TD (Xp sq) k s
def xN (a:Nat):Nat:=piN*a / 180000000
def stN (a:Nat):Nat:=tim (xN a) (Ym (tim (xN a) (xN a)) 17 oneN)
def yo (a:Nat):Nat × Bool:=if a=0 then (0,true) else if a=30000000 then (50000000,true) else if a=90000000 then (100000000,true) else (stN a*100000000 / 85070591730234615865843651857942052864,false)
theorem GN (n:Nat):n % 340282366920938463463374607431768211456<340282366920938463463374607431768211456:=Nat.mod_lt _ (by omega)
theorem JG (sq k s:Nat):Xp sq k s<340282366920938463463374607431768211456:=by unfold Xp;exact GN _
theorem G2 (a:Nat):stN a<340282366920938463463374607431768211456:=by unfold stN;exact Qg _ _
theorem zay {s:Nat} (h:s<340282366920938463463374607431768211456):s*100000000 / 85070591730234615865843651857942052864<=400000000:=by omega
theorem Si (a:Nat):(yo a).1<=400000000:=by
 unfold yo;split
 ·exact Nat.zero_le _
 ·split
  ·exact zt_ rfl
  ·split
   ·exact zt_ rfl
   ·exact zay (G2 a)
theorem Gy {p a:Nat} (h:a<=180000000):p*a / 180000000<=p:=by
 apply Nat.div_le_of_le_mul;rw[Nat.mul_comm 180000000];exact Nat.mul_le_mul_left _ h
theorem Jf:piN<340282366920938463463374607431768211456:=by unfold piN;omega
theorem NY:oneN<340282366920938463463374607431768211456:=by unfold oneN;omega
theorem zaE {a:Nat} (h:a<=180000000):xN a<340282366920938463463374607431768211456:=by
 unfold xN;exact Nat.lt_of_le_of_lt (Gy h) Jf
theorem D6:(fx piN).av=.agg [.int .u64 14488038916154245684,.int .u64 14179128828124470481]:=by kernel_rfl
theorem KE:(fx oneN).av=.agg [.int .u64 4611686018427387904,.int .u64 0]:=by kernel_rfl
def F6 (a:Int) (Q:yc):Prop :=
 ((a == 0)=true->Q (.tup [iN 0,.bool true]) [])/\((a == 0)=false->((a == 30000000)=true->Q (.tup [iN 50000000,.bool true]) [])/\((a == 30000000)=false->((a == 90000000)=true->Q (.tup [iN 100000000,.bool true]) [])/\((a == 90000000)=false->∃n6 n7,Sp 230 [AV.agg [AV.int u64 (14488038916154245684:Int),.int u64 (14179128828124470481:Int)],.int u64 (wrap u64 a),.int u64 (180000000:Int)] [] (.agg [AV.int u64 n6,.int u64 n7]) []/\∃n9 n10,Sp 231 [AV.agg [AV.int u64 n6,.int u64 n7],.agg [AV.int u64 n6,.int u64 n7]] [] (.agg [AV.int u64 n9,.int u64 n10]) []/\∃(I12:Nat->List AV->Prop),(∃m14,I12 m14 [AV.int u64 (17:Int),.agg [AV.int u64 (4611686018427387904:Int),.int u64 (0:Int)]])/\∀(m14:Nat) (n15 n16 n17:Int),I12 m14 [AV.int u64 n15,.agg [AV.int u64 n16,.int u64 n17]]->(decide (n15>0)=true->∃n21 n22,Sp 231 [AV.agg [AV.int u64 n9,.int u64 n10],.agg [AV.int u64 n16,.int u64 n17]] [] (.agg [AV.int u64 n21,.int u64 n22]) []/\∃n24 n25,Sp 230 [AV.agg [AV.int u64 n21,.int u64 n22],.int u64 (1:Int),.int u64 (wrap u64 (wrap u64 ((2:Int)*n15)*wrap u64 (wrap u64 ((2:Int)*n15)+1)))] [] (.agg [AV.int u64 n24,.int u64 n25]) []/\∃n27 n28,Sp 232 [AV.agg [AV.int u64 (4611686018427387904:Int),.int u64 (0:Int)],.agg [AV.int u64 n24,.int u64 n25]] [] (.agg [AV.int u64 n27,.int u64 n28]) []/\yd [AV.int u64 n6,.int u64 n7]/\yd [AV.int u64 n9,.int u64 n10]/\yd [AV.lit u64 (4611686018427387904:Int),.lit u64 (0:Int)]/\∃k33,k33<m14/\I12 k33 [AV.int u64 (wrap u64 (n15-1)),.agg [AV.int u64 n27,.int u64 n28]])/\(decide (n15>0)=false->∃n21 n22,Sp 231 [AV.agg [AV.int u64 n6,.int u64 n7],.agg [AV.int u64 n16,.int u64 n17]] [] (.agg [AV.int u64 n21,.int u64 n22]) []/\∃n24,Sp 233 [AV.agg [AV.int u64 n21,.int u64 n22]] [] (iN n24) []/\Q (.tup [iN n24,.bool false]) []))))
theorem zd5 (a:Int) (v O) (h:F6 a (fun r O'=>r=v/\O'=O)):Sp 223 [iN a] [] v O :=
 zS ⟨[0,2,3,4,5,6,7,8,9,10,12,14,26],[⟨13,[(8,.int .u64 0)],[],[(7,.agg [.int .u64 0,.int .u64 0])],[],[],[]⟩],[],[]⟩ Tryz.func223 Tryz.call223 rfl (by kernel_rfl) h
theorem zcd (a:Nat) (ha:a<=180000000):Sp 223 [.int .i64 a] [] (.tup [.int .i64 ((yo a).1:Nat),.bool (yo a).2]) []:=zd5 a _ _ (by
 unfold F6;refine⟨fun h=>⟨?_,rfl⟩,fun h0=>⟨fun h=>⟨?_,rfl⟩,fun h1=>⟨fun h=>⟨?_,rfl⟩,fun h2=>?_⟩⟩⟩
 ·have h:a=0:=by simpa using h
  subst h;rfl
 ·have h:a=30000000:=by simp at h;omega
  subst h;rfl
 ·have h:a=90000000:=by simp at h;omega
  subst h;rfl
 have h0:a≠0:=by simpa using h0
 have h1:a≠30000000:=by simp at h1;omega
 have h2:a≠90000000:=by simp at h2;omega
 have e:yo a=(stN a*100000000 / 85070591730234615865843651857942052864,false):=by unfold yo;rw[if_neg h0,if_neg h1,if_neg h2]
 rw[e];have k1:=DT piN a 180000000 Jf ha (by omega) (by omega);rw[D6,show piN*a / 180000000=xN a from rfl] at k1;obtain ⟨x,ex⟩:∃x,x=xN a:=⟨_,rfl⟩;have hx:x<340282366920938463463374607431768211456:=by rw[ex];exact zaE ha
 rw[<- ex] at k1;obtain ⟨sq,esq⟩:∃s,s=tim x x:=⟨_,rfl⟩;have k2:=Gn x x hx hx;have hsq:=Qg x x;rw[<- esq] at k2 hsq;obtain ⟨r,er⟩:∃r,r=Ym sq 17 oneN:=⟨_,rfl⟩;obtain ⟨st,est⟩:∃st,st=stN a:=⟨_,rfl⟩;have hst:st=tim x r:=by rw[est,er,esq,ex];rfl
 rw[<- est];refine⟨_,_,by rw[jb (by omega)];exact k1,_,_,k2,?_⟩;clear k1 k2 est esq ex e;refine⟨fun m vs=>∃k s:Nat,k<=17/\s<340282366920938463463374607431768211456/\m=k/\vs=[.int .u64 k,(fx s).av]/\Ym sq k s=r,⟨17,17,oneN,by omega,NY,rfl,by rw[KE];rfl,er.symm⟩,?_⟩;rintro m n15 n16 n17 ⟨k,s,hk,hs,rfl,hv,hh⟩;have hv':=hv;unfold TFixed.av TFixed.cs at hv';simp only[List.cons.injEq,AV.int.injEq,true_and,AV.agg.injEq,and_true] at hv';obtain ⟨rfl,rfl,rfl⟩:=hv';refine⟨fun g=>?_,fun g=>?_⟩
 ·have hk0:0<m:=by simpa using g
  obtain ⟨j,rfl⟩:∃j,m=j+1:=⟨m-1,by omega⟩;have b1:2*(j+1)*(2*(j+1)+1)<=34*35:=Nat.mul_le_mul (by omega) (by omega);have b2:1*1<=2*(j+1)*(2*(j+1)+1):=Nat.mul_le_mul (by omega) (by omega);have eD:IntKind.u64.wrap (wrap u64 ((2:Int)*((j+1:Nat):Int))*wrap u64 (wrap u64 ((2:Int)*((j+1:Nat):Int))+1))=((2*(j+1)*(2*(j+1)+1):Nat):Int):=by
   rw[show (2:Int)*((j+1:Nat):Int)=((2*(j+1):Nat):Int) by omega,jb (n:=2*(j+1)) (by omega),show ((2*(j+1):Nat):Int)+1=((2*(j+1)+1:Nat):Int) by omega,jb (n:=2*(j+1)+1) (by omega),<- Int.natCast_mul,jb (Nat.lt_of_le_of_lt b1 (by decide))]
  have ht:=Qg sq s;have k2:=DT (tim sq s) 1 (2*(j+1)*(2*(j+1)+1)) ht b2 b2 (Nat.lt_of_le_of_lt b1 (by decide));have hle:tim sq s*1 / (2*(j+1)*(2*(j+1)+1))<340282366920938463463374607431768211456:=Nat.lt_of_le_of_lt (Nat.div_le_self _ _) (by rw[Nat.mul_one];exact ht);have k3:=zcf oneN _ NY hle;rw[KE,show (oneN+340282366920938463463374607431768211456-tim sq s*1 / (2*(j+1)*(2*(j+1)+1))) % 340282366920938463463374607431768211456=Xp sq j s from rfl] at k3;refine⟨_,_,Gn sq s hsq hs,_,_,by rw[eD];exact k2,_,_,k3,by trivial,by trivial,by trivial,j,by omega,j,_,by omega,JG sq j s,rfl,?_,?_⟩
  ·rw[show (((j+1:Nat):Int)-1)=(j:Int) by omega,jb (by omega)];rfl
  ·rw[<- hh];unfold Ym;rw[NK]
 ·have hk0:m=0:=by simp at g;omega
  subst hk0;have hh:s=r:=by unfold Ym at hh;rw[Iq] at hh;exact hh
  subst hh;have k4:=Gn x s hx hs;rw[<- hst] at k4;have k5:=zcg st (by rw[hst];exact Qg _ _);exact⟨_,_,k4,_,k5,rfl,by trivial⟩)
def qn (e:TEncl):TEncl:=⟨wrap i64 (0-e.Hi),wrap i64 (0-e.Lo)⟩
def zbp (x:TEncl) (Q:yc):Prop :=
 Q (.agg [iN (wrap i64 ((0:Int)-x.Hi)),iN (wrap i64 ((0:Int)-x.Lo))]) []
theorem zd6 (x:TEncl) (v O) (h:zbp x (fun r O'=>r=v/\O'=O)):Sp 224 [x.av] [] v O :=
 zS ⟨[0,1,2],[],[],[]⟩ Tryz.func224 Tryz.call224 rfl (by kernel_rfl) h
theorem DR (e:TEncl):Sp 224 [e.av] [] (qn e).av []:=zd6 e _ _ ⟨rfl,rfl⟩
def qJ (a:Int):Int:=(a.tmod 360000000+360000000).tmod 360000000
theorem Xw (a:Int):0<=qJ a/\qJ a<360000000:=by
 unfold qJ;have h1:=Int.tmod_lt_of_pos a (b:=360000000) (by omega);have h2:=Int.lt_tmod_of_pos a (b:=360000000) (by omega);rw[Int.tmod_eq_emod_of_nonneg (by omega)];omega
def qj (a:Int):Nat:=(if 180000000-(qJ a).tmod 180000000<(qJ a).tmod 180000000 then 180000000-(qJ a).tmod 180000000 else (qJ a).tmod 180000000).toNat
theorem ve (a:Int):qj a<=90000000/\(qj a:Int)=if 180000000-(qJ a).tmod 180000000<(qJ a).tmod 180000000 then 180000000-(qJ a).tmod 180000000 else (qJ a).tmod 180000000:=by
 have h:=Xw a;unfold qj;rw[Int.tmod_eq_emod_of_nonneg h.1];split<;>omega
def upE (p:Nat × Bool):TEncl:=if p.2 then ⟨p.1,p.1⟩ else ⟨p.1,p.1+1⟩
def jv (a:Int):TEncl:=if 180000000<=qJ a then qn (upE (yo (qj a))) else upE (yo (qj a))
theorem G7 (a:Nat):0<=(upE (yo a)).Lo/\(upE (yo a)).Lo<=(upE (yo a)).Hi/\(upE (yo a)).Hi<=400000001:=by
 have h:=Si a;unfold upE;split
 ·exact⟨by show (0:Int)<=((yo a).1:Nat);omega,Int.le_refl _,by show (((yo a).1:Nat):Int)<=400000001;omega⟩
 ·refine⟨?_,?_,?_⟩
  ·show (0:Int)<=((yo a).1:Nat);omega
  ·show (((yo a).1:Nat):Int)<=((yo a).1:Nat)+1;omega
  ·show (((yo a).1:Nat):Int)+1<=400000001;omega
def FV (a:Int) (Q:yc):Prop :=
 ∃n0 b1,Sp 223 [iN (if IntKind.i64.wrap ((180000000:Int)-((wrap i64 (a.tmod (360000000:Int)+(360000000:Int))).tmod (360000000:Int)).tmod (180000000:Int))<((wrap i64 (a.tmod (360000000:Int)+(360000000:Int))).tmod (360000000:Int)).tmod (180000000:Int) then wrap i64 ((180000000:Int)-((wrap i64 (a.tmod (360000000:Int)+(360000000:Int))).tmod (360000000:Int)).tmod (180000000:Int)) else ((wrap i64 (a.tmod (360000000:Int)+(360000000:Int))).tmod (360000000:Int)).tmod (180000000:Int))] [] (.tup [iN n0,.bool b1]) []/\((!b1)=true->(decide ((wrap i64 (a.tmod (360000000:Int)+(360000000:Int))).tmod (360000000:Int)>=(180000000:Int))=true->∃n7 n8,Sp 224 [AV.agg [iN n0,iN (wrap i64 (n0+1))]] [] (.agg [iN n7,iN n8]) []/\Q (.agg [iN n7,iN n8]) [])/\(decide ((wrap i64 (a.tmod (360000000:Int)+(360000000:Int))).tmod (360000000:Int)>=(180000000:Int))=false->Q (.agg [iN n0,iN (wrap i64 (n0+1))]) []))/\((!b1)=false->(decide ((wrap i64 (a.tmod (360000000:Int)+(360000000:Int))).tmod (360000000:Int)>=(180000000:Int))=true->∃n7 n8,Sp 224 [AV.agg [iN n0,iN n0]] [] (.agg [iN n7,iN n8]) []/\Q (.agg [iN n7,iN n8]) [])/\(decide ((wrap i64 (a.tmod (360000000:Int)+(360000000:Int))).tmod (360000000:Int)>=(180000000:Int))=false->Q (.agg [iN n0,iN n0]) []))
theorem zdR (a:Int) (v O) (h:FV a (fun r O'=>r=v/\O'=O)):Sp 207 [iN a] [] v O :=
 zS ⟨[0,2,3,4,5,6,27,32],[],[],[]⟩ Tryz.func207 Tryz.call207 rfl (by kernel_rfl) h
theorem Ic (a:Int):Sp 207 [.int .i64 a] [] (jv a).av []:=zdR a _ _ (by
 unfold FV;have h:=Xw a;have ht:(wrap i64 (a.tmod 360000000+360000000)).tmod 360000000=qJ a:=by
  have h1:=Int.tmod_lt_of_pos a (b:=360000000) (by omega);have h2:=Int.lt_tmod_of_pos a (b:=360000000) (by omega);rw[zw6 (by omega)];rfl
 rw[ht];obtain ⟨f1,f2⟩:=ve a;have hw:IntKind.i64.wrap (180000000-(qJ a).tmod 180000000)=180000000-(qJ a).tmod 180000000:=by
  rw[Int.tmod_eq_emod_of_nonneg h.1];exact zw6 (by omega)
 rw[hw,<- f2];have hs:=zcd (qj a) (by omega);have hle:=Si (qj a);have hu:=G7 (qj a);have hw1:IntKind.i64.wrap ((((yo (qj a)).1:Nat):Int)+1)=((yo (qj a)).1:Nat)+1:=zw6 (by omega);unfold jv;refine⟨_,_,hs,fun hb=>⟨fun g=>?_,fun g=>?_⟩,fun hb=>⟨fun g=>?_,fun g=>?_⟩⟩
 ·have hb:(yo (qj a)).2=false:=by simpa using hb
  rw[if_pos (zt_ g)];have e:upE (yo (qj a))=⟨((yo (qj a)).1:Nat),((yo (qj a)).1:Nat)+1⟩:=by unfold upE;rw[hb];rfl
  rw[hw1,e];exact⟨_,_,DR ⟨((yo (qj a)).1:Nat),((yo (qj a)).1:Nat)+1⟩,rfl,rfl⟩
 ·have hb:(yo (qj a)).2=false:=by simpa using hb
  rw[if_neg (zf_ g)];have e:upE (yo (qj a))=⟨((yo (qj a)).1:Nat),((yo (qj a)).1:Nat)+1⟩:=by unfold upE;rw[hb];rfl
  rw[hw1,e];exact⟨rfl,rfl⟩
 ·have hb:(yo (qj a)).2=true:=by simpa using hb
  rw[if_pos (zt_ g)];have e:upE (yo (qj a))=⟨((yo (qj a)).1:Nat),((yo (qj a)).1:Nat)⟩:=by unfold upE;rw[hb];rfl
  rw[e];exact⟨_,_,DR ⟨((yo (qj a)).1:Nat),((yo (qj a)).1:Nat)⟩,rfl,rfl⟩
 ·have hb:(yo (qj a)).2=true:=by simpa using hb
  rw[if_neg (zf_ g)];have e:upE (yo (qj a))=⟨((yo (qj a)).1:Nat),((yo (qj a)).1:Nat)⟩:=by unfold upE;rw[hb];rfl
  rw[e];exact⟨rfl,rfl⟩)
def xb (x y:TEncl):TEncl:=⟨if y.Lo<x.Lo then y.Lo else x.Lo,if y.Hi>x.Hi then y.Hi else x.Hi⟩
theorem yr {n:Nat} (h:n<9223372036854775807):IntKind.i64.wrap ((n:Int)+1)=((n+1:Nat):Int):=zw6 (by omega)
theorem yq {α β:Type} {f:α->β} {l:List α} {k:Nat} (h:k<l.length):∃x,l[k]? = some x/\(l.map f)[((k:Nat):Int).toNat]? = some (f x):=by
 refine⟨l[k],List.getElem?_eq_getElem h,?_⟩;rw[Int.toNat_natCast,List.getElem?_map,List.getElem?_eq_getElem h];rfl
theorem XN {α β:Type} (g:β->α->β) (z:β) {l:List α} {k:Nat} {x:α} (h:l[k]? = some x):(l.take (k+1)).foldl g z=g ((l.take k).foldl g z) x:=by
 rw[List.take_add_one,h,List.foldl_append];rfl
def F5 (x:TEncl) (l:List TEncl) (Q:yc):Prop :=
 ∃(I0:Nat->List AV->Prop),(∃m2,I0 m2 [iN 0,x.av])/\∀(m2:Nat) (n3 n4 n5:Int),I0 m2 [iN n3,.agg [iN n4,iN n5]]->(decide (n3<(↑(List.map TEncl.av l).length:Int))=true->∃n9 n10,((0:Int)<=n3/\(2:Nat)=(2:Nat)/\(List.map TEncl.av l)[n3.toNat]? = some (.agg [iN n9,iN n10]))/\TEncl.z0=TEncl.z0/\∃k13,k13<m2/\I0 k13 [iN (wrap i64 (n3+1)),.agg [iN (if n9<n4 then n9 else n4),iN (if n10>n5 then n10 else n5)]])/\(decide (n3<(↑(List.map TEncl.av l).length:Int))=false->Q (.agg [iN n4,iN n5]) [])
theorem zd4 (x:TEncl) (l:List TEncl) (v O) (h:F5 x l (fun r O'=>r=v/\O'=O)):Sp 222 [x.av,.slc 3 (List.map TEncl.av l)] [] v O :=
 zS ⟨[0,1,2,4,6,7,8,9,10],[⟨2,[(9,iN 0)],[],[(2,.agg [iN 0,iN 0])],[],[],[]⟩],[],[]⟩ Tryz.func222 Tryz.call222 rfl (by kernel_rfl) h
theorem Gl (x:TEncl) (l:List TEncl) (hl:l.length<=1000000):Sp 222 [x.av,.slc 3 (l.map TEncl.av)] [] (l.foldl xb x).av []:=zd4 x l _ _ (by
 unfold F5;refine⟨fun m vs=>∃k:Nat,k<=l.length/\m=l.length-k/\vs=[.int .i64 k,((l.take k).foldl xb x).av],⟨_,0,by omega,rfl,rfl⟩,?_⟩;rintro m n3 n4 n5 ⟨k,hk,rfl,hv⟩;generalize he:(l.take k).foldl xb x=e at hv;have hv':=hv;unfold TEncl.av TEncl.cs at hv';simp only[List.cons.injEq,AV.int.injEq,true_and,AV.agg.injEq,and_true] at hv';obtain ⟨rfl,rfl,rfl⟩:=hv';simp only[List.length_map];refine⟨fun g=>?_,fun g=>?_⟩
 ·have hlt:k<l.length:=by simpa using g
  obtain ⟨y,hy,hy'⟩:=yq (f:=TEncl.av) hlt;refine⟨y.Lo,y.Hi,⟨by omega,by trivial,hy'⟩,by trivial,_,(by omega:l.length-(k+1)<l.length-k),k+1,by omega,rfl,?_⟩;rw[yr (by omega),XN xb x hy,he];rfl
 ·obtain rfl:k=l.length:=by simp at g;omega
  rw[List.take_length] at he;subst he;exact⟨rfl,by trivial⟩)
def Wm (b v:Int):Int:=wrap i64 (v+(wrap i64 ((wrap i64 (b-v)).tmod 360000000+360000000)).tmod 360000000)
def zbq (b v0:Int) (Q:yc):Prop :=
 Q (iN (wrap i64 (v0+(wrap i64 ((wrap i64 (b-v0)).tmod (360000000:Int)+(360000000:Int))).tmod (360000000:Int)))) [[iN v0]]
theorem zeb (b v0:Int) (v O) (h:zbq b v0 (fun r O'=>r=v/\O'=O)):Sp 229 [iN b,.ref 0 0] [[iN v0]] v O :=
 zX ⟨[],[],[],[],[]⟩ 0 ⟨[0,1,3],[],[],[]⟩ [⟨3,false,[iN v0]⟩] (by exact trivial) Tryz.func229 Tryz.call229 rfl rfl rfl (by kernel_rfl) h
theorem Gm (b v:Int):Sp 229 [.int .i64 b,.ref 0 0] [[.int .i64 v]] (.int .i64 (Wm b v)) [[.int .i64 v]]:=zeb b v _ _ ⟨rfl,rfl⟩
def qc (x:TEncl) (most:Int):Bool:=decide (x.Lo>x.Hi) || (decide (x.Lo<wrap i64 (0-most)) || decide (x.Hi>most))
def zbi (x:TEncl) (most:Int) (Q:yc):Prop :=
 (decide (x.Lo>x.Hi)=true->Q (.bool true) [])/\(decide (x.Lo>x.Hi)=false->(decide (x.Lo<wrap i64 ((0:Int)-most))=true->Q (.bool true) [])/\(decide (x.Lo<wrap i64 ((0:Int)-most))=false->Q (.bool (decide (x.Hi>most))) []))
theorem zdN (x:TEncl) (most:Int) (v O) (h:zbi x most (fun r O'=>r=v/\O'=O)):Sp 201 [x.av,iN most] [] v O :=
 zS ⟨[0,1,2,4],[],[],[]⟩ Tryz.func201 Tryz.call201 rfl (by kernel_rfl) h
theorem Ta (x:TEncl) (most:Int):Sp 201 [x.av,.int .i64 most] [] (.bool (qc x most)) []:=zdN x most _ _ (by
 unfold qc;refine⟨fun h=>⟨?_,by trivial⟩,fun h=>⟨fun h2=>⟨?_,by trivial⟩,fun h2=>⟨?_,by trivial⟩⟩⟩
 ·rw[h];rfl
 ·rw[h,h2];rfl
 ·rw[h,h2];rfl)
def G6 (c:Bool) (e:TEncl):TEncl:=if c then ⟨e.Lo,100000000⟩ else e
def H9 (c:Bool) (e:TEncl):TEncl:=if c then ⟨-100000000,e.Hi⟩ else e
def Mc (a:TEncl) (more:Int):TEncl :=
 let lo:=wrap i64 (a.Lo+more)
 let hi:=wrap i64 (a.Hi+more)
 H9 (decide (Wm 270000000 lo<=hi)) (G6 (decide (Wm 90000000 lo<=hi)) (xb (jv lo) (jv hi)))
def yW (a:TEncl) (more:Int):TEncl × Int:=if qc a 3600000000 then (⟨0,0⟩,7) else (Mc a more,0)
def F3 (a:TEncl) (more:Int) (Q:yc):Prop :=
 ∃b0,Sp 201 [a.av,iN 3600000000] [] (.bool b0) []/\(b0=true->Q (.tup [TEncl.zero.av,iN 7]) [])/\(b0=false->∃n4 n5,Sp 207 [iN (wrap i64 (a.Lo+more))] [] (.agg [iN n4,iN n5]) []/\∃n7 n8,Sp 207 [iN (wrap i64 (a.Hi+more))] [] (.agg [iN n7,iN n8]) []/\∃n10 n11,Sp 222 [AV.agg [iN n4,iN n5],.slc 3 [AV.agg [iN n7,iN n8]]] [] (.agg [iN n10,iN n11]) []/\∃n13 n14,Sp 229 [iN 90000000,.ref 0 0] [[iN (wrap i64 (a.Lo+more))]] (iN n13) [[iN n14]]/\(decide (n13<=wrap i64 (a.Hi+more))=true->∃n18 n19,Sp 229 [iN 270000000,.ref 0 0] [[iN n14]] (iN n18) [[iN n19]]/\(decide (n18<=wrap i64 (a.Hi+more))=true->Q (.tup [AV.agg [iN (-100000000:Int),iN 100000000],iN 0]) [])/\(decide (n18<=wrap i64 (a.Hi+more))=false->Q (.tup [AV.agg [iN n10,iN 100000000],iN 0]) []))/\(decide (n13<=wrap i64 (a.Hi+more))=false->∃n18 n19,Sp 229 [iN 270000000,.ref 0 0] [[iN n14]] (iN n18) [[iN n19]]/\(decide (n18<=wrap i64 (a.Hi+more))=true->Q (.tup [AV.agg [iN (-100000000:Int),iN n11],iN 0]) [])/\(decide (n18<=wrap i64 (a.Hi+more))=false->Q (.tup [AV.agg [iN n10,iN n11],iN 0]) [])))
theorem zd1 (a:TEncl) (more:Int) (v O) (h:F3 a more (fun r O'=>r=v/\O'=O)):Sp 218 [a.av,iN more] [] v O :=
 zS ⟨[0,1,2,4,5,6,7,8,9,11,31,36],[],[],[]⟩ Tryz.func218 Tryz.call218 rfl (by kernel_rfl) h
theorem DQ (a:TEncl) (more:Int):Sp 218 [a.av,.int .i64 more] [] (.tup [(yW a more).1.av,.int .i64 (yW a more).2]) []:=zd1 a more _ _ (by
 unfold F3;refine⟨_,Ta a 3600000000,fun h=>⟨?_,by trivial⟩,fun h=>?_⟩
 ·unfold yW;rw[if_pos h];rfl
 have hj:=Gl (jv (wrap i64 (a.Lo+more))) [jv (wrap i64 (a.Hi+more))] (by simp);have e:yW a more=(Mc a more,0):=by unfold yW;rw[h];rfl
 rw[e];refine⟨_,_,Ic _,_,_,Ic _,_,_,hj,_,_,Gm _ _,fun g=>⟨_,_,Gm _ _,fun g2=>⟨?_,by trivial⟩,fun g2=>⟨?_,by trivial⟩⟩,fun g=>⟨_,_,Gm _ _,fun g2=>⟨?_,by trivial⟩,fun g2=>⟨?_,by trivial⟩⟩⟩;all_goals (unfold Mc;dsimp only;rw[g,g2];rfl))
def zbh (a:TEncl) (Q:yc):Prop :=
 ∃n0 n1 n2,Sp 218 [a.av,iN 0] [] (.tup [AV.agg [iN n0,iN n1],iN n2]) []/\Q (.tup [AV.agg [iN n0,iN n1],iN n2]) []
theorem zdL (a:TEncl) (v O) (h:zbh a (fun r O'=>r=v/\O'=O)):Sp 199 [a.av] [] v O :=
 zS ⟨[0,1,2,3],[],[],[]⟩ Tryz.func199 Tryz.call199 rfl (by kernel_rfl) h
theorem zb3 (a:TEncl):Sp 199 [a.av] [] (.tup [(yW a 0).1.av,.int .i64 (yW a 0).2]) []:=zdL a _ _ ⟨_,_,_,DQ a 0,rfl,rfl⟩
def zbk (a:TEncl) (Q:yc):Prop :=
 ∃n0 n1 n2,Sp 218 [a.av,iN 90000000] [] (.tup [AV.agg [iN n0,iN n1],iN n2]) []/\Q (.tup [AV.agg [iN n0,iN n1],iN n2]) []
theorem zdP (a:TEncl) (v O) (h:zbk a (fun r O'=>r=v/\O'=O)):Sp 204 [a.av] [] v O :=
 zS ⟨[0,1,2,3],[],[],[]⟩ Tryz.func204 Tryz.call204 rfl (by kernel_rfl) h
theorem zb6 (a:TEncl):Sp 204 [a.av] [] (.tup [(yW a 90000000).1.av,.int .i64 (yW a 90000000).2]) []:=zdP a _ _ ⟨_,_,_,DQ a 90000000,rfl,rfl⟩
end Go.Proofs.YtkojpnkknehhmaaGreatDoor

/- Contracts: sines. Contracts: sines of all angles, enclosures of sines. Contracts: enclosures of sines and of fractions. -/
import Derived.Test.YtkojpnkknehhmaaGreatDoorB
namespace Go.Proofs.YtkojpnkknehhmaaGreatDoor
open Go.IntKind (wrap i64 u64)
open Go.RowKit
def piN:Nat:=267257146016241686964920093290467695825
def oneN:Nat:=85070591730234615865843651857942052864
def Xn (sq k s:Nat):Nat:=(oneN+340282366920938463463374607431768211456-tim sq s*1 / (2*(k+1)*(2*(k+1)+1))) % 340282366920938463463374607431768211456
def To (f:Nat->Nat->Nat):Nat->Nat->Nat
 |0,s=>s
 |k+1,s=>To f k (f k s)
theorem O7 (f:Nat->Nat->Nat) (k s:Nat):To f (k+1) s=To f k (f k s):=rfl
theorem Jy (f:Nat->Nat->Nat) (s:Nat):To f 0 s=s:=rfl
def Yj (sq k s:Nat):Nat:=To (Xn sq) k s
def xN (a:Nat):Nat:=piN*a / 180000000
def stN (a:Nat):Nat:=tim (xN a) (Yj (tim (xN a) (xN a)) 17 oneN)
def yp (a:Nat):Nat × Bool:=if a=0 then (0,true) else if a=30000000 then (50000000,true) else if a=90000000 then (100000000,true) else (stN a*100000000 / 85070591730234615865843651857942052864,false)
theorem HM (n:Nat):n % 340282366920938463463374607431768211456<340282366920938463463374607431768211456:=Nat.mod_lt _ (by omega)
theorem KW (sq k s:Nat):Xn sq k s<340282366920938463463374607431768211456:=by unfold Xn;exact HM _
theorem H0 (a:Nat):stN a<340282366920938463463374607431768211456:=by unfold stN;exact SW _ _
theorem Dt {s:Nat} (h:s<340282366920938463463374607431768211456):s*100000000 / 85070591730234615865843651857942052864<=400000000:=by omega
theorem TZ (a:Nat):(yp a).1<=400000000:=by
 unfold yp;split
 ·exact Nat.zero_le _
 ·split
  ·exact zt_ rfl
  ·split
   ·exact zt_ rfl
   ·exact Dt (H0 a)
theorem Hy {p a:Nat} (h:a<=180000000):p*a / 180000000<=p:=by
 apply Nat.div_le_of_le_mul;rw[Nat.mul_comm 180000000];exact Nat.mul_le_mul_left _ h
theorem Kz:piN<340282366920938463463374607431768211456:=by unfold piN;omega
theorem Nl:oneN<340282366920938463463374607431768211456:=by unfold oneN;omega
theorem Dz {a:Nat} (h:a<=180000000):xN a<340282366920938463463374607431768211456:=by
 unfold xN;exact Nat.lt_of_le_of_lt (Hy h) Kz
theorem F1:(fx piN).av=.agg [.int .u64 14488038916154245684,.int .u64 14179128828124470481]:=by kernel_rfl
theorem L0:(fx oneN).av=.agg [.int .u64 4611686018427387904,.int .u64 0]:=by kernel_rfl
def GY (a:Int) (S:SpecF) (_Fr:FreshF) (_Sq:SeqF) (Q:yc):Prop :=
 ((a == 0)=true->Q (.tup [iN 0,.bool true]) [])/\((a == 0)=false->((a == 30000000)=true->Q (.tup [iN 50000000,.bool true]) [])/\((a == 30000000)=false->((a == 90000000)=true->Q (.tup [iN 100000000,.bool true]) [])/\((a == 90000000)=false->∃n6 n7,S 230 [AV.agg [AV.int u64 (14488038916154245684:Int),.int u64 (14179128828124470481:Int)],.int u64 (wrap u64 a),.int u64 (180000000:Int)] [] (.agg [AV.int u64 n6,.int u64 n7]) []/\∃n9 n10,S 231 [AV.agg [AV.int u64 n6,.int u64 n7],.agg [AV.int u64 n6,.int u64 n7]] [] (.agg [AV.int u64 n9,.int u64 n10]) []/\∃(I12:Nat->List AV->Prop),(∃m14,I12 m14 [AV.int u64 (17:Int),.agg [AV.int u64 (4611686018427387904:Int),.int u64 (0:Int)]])/\∀(m14:Nat) (n15 n16 n17:Int),I12 m14 [AV.int u64 n15,.agg [AV.int u64 n16,.int u64 n17]]->(decide (n15>0)=true->∃n21 n22,S 231 [AV.agg [AV.int u64 n9,.int u64 n10],.agg [AV.int u64 n16,.int u64 n17]] [] (.agg [AV.int u64 n21,.int u64 n22]) []/\∃n24 n25,S 230 [AV.agg [AV.int u64 n21,.int u64 n22],.int u64 (1:Int),.int u64 (wrap u64 (wrap u64 ((2:Int)*n15)*wrap u64 (wrap u64 ((2:Int)*n15)+1)))] [] (.agg [AV.int u64 n24,.int u64 n25]) []/\∃n27 n28,S 232 [AV.agg [AV.int u64 (4611686018427387904:Int),.int u64 (0:Int)],.agg [AV.int u64 n24,.int u64 n25]] [] (.agg [AV.int u64 n27,.int u64 n28]) []/\ye [AV.int u64 n6,.int u64 n7]/\ye [AV.int u64 n9,.int u64 n10]/\ye [AV.lit u64 (4611686018427387904:Int),.lit u64 (0:Int)]/\∃k33,k33<m14/\I12 k33 [AV.int u64 (wrap u64 (n15-1)),.agg [AV.int u64 n27,.int u64 n28]])/\(decide (n15>0)=false->∃n21 n22,S 231 [AV.agg [AV.int u64 n6,.int u64 n7],.agg [AV.int u64 n16,.int u64 n17]] [] (.agg [AV.int u64 n21,.int u64 n22]) []/\∃n24,S 233 [AV.agg [AV.int u64 n21,.int u64 n22]] [] (iN n24) []/\Q (.tup [iN n24,.bool false]) []))))
theorem zc3 (a:Int) (v:AV) (O:List (List AV)) (h:GY a Sp Fo So (fun r O'=>r=v/\O'=O)):Sp 223 [iN a] [] v O :=
 yb (w:=⟨[],[],[],[],[]⟩) (k:=0) (keep:=⟨[0,2,3,4,5,6,7,8,9,10,12,14,26],[⟨13,[(8,.int .u64 0)],[],[(7,.agg [.int .u64 0,.int .u64 0])],[],[],[]⟩],[],[]⟩) (boxes:=[]) mixed (by exact trivial) Tryz.func223 Tryz.call223 rfl rfl rfl (Nat.le_of_ble_eq_true rfl) (by kernel_rfl) h
theorem za9 (a:Nat) (ha:a<=180000000):Sp 223 [.int .i64 a] [] (.tup [.int .i64 ((yp a).1:Nat),.bool (yp a).2]) []:=zc3 a _ _ (by
 unfold GY;refine⟨fun h=>⟨?_,rfl⟩,fun h0=>⟨fun h=>⟨?_,rfl⟩,fun h1=>⟨fun h=>⟨?_,rfl⟩,fun h2=>?_⟩⟩⟩
 ·have h:a=0:=by simpa using h
  subst h;rfl
 ·have h:a=30000000:=by simp at h;omega
  subst h;rfl
 ·have h:a=90000000:=by simp at h;omega
  subst h;rfl
 have h0:a≠0:=by simpa using h0
 have h1:a≠30000000:=by simp at h1;omega
 have h2:a≠90000000:=by simp at h2;omega
 have e:yp a=(stN a*100000000 / 85070591730234615865843651857942052864,false):=by unfold yp;rw[if_neg h0,if_neg h1,if_neg h2]
 rw[e];have k1:=FP piN a 180000000 Kz ha (by omega) (by omega);rw[F1,show piN*a / 180000000=xN a from rfl] at k1;obtain ⟨x,ex⟩:∃x,x=xN a:=⟨_,rfl⟩;have hx:x<340282366920938463463374607431768211456:=by rw[ex];exact Dz ha
 rw[<- ex] at k1;obtain ⟨sq,esq⟩:∃s,s=tim x x:=⟨_,rfl⟩;have k2:=Ho x x hx hx;have hsq:=SW x x;rw[<- esq] at k2 hsq;obtain ⟨r,er⟩:∃r,r=Yj sq 17 oneN:=⟨_,rfl⟩;obtain ⟨st,est⟩:∃st,st=stN a:=⟨_,rfl⟩;have hst:st=tim x r:=by rw[est,er,esq,ex];rfl
 rw[<- est];refine⟨_,_,by rw[ja (by omega)];exact k1,_,_,k2,?_⟩;clear k1 k2 est esq ex e;refine⟨fun m vs=>∃k s:Nat,k<=17/\s<340282366920938463463374607431768211456/\m=k/\vs=[.int .u64 k,(fx s).av]/\Yj sq k s=r,⟨17,17,oneN,by omega,Nl,rfl,by rw[L0];rfl,er.symm⟩,?_⟩;rintro m n15 n16 n17 ⟨k,s,hk,hs,rfl,hv,hh⟩;have hv':=hv;unfold TFixed.av TFixed.cs at hv';simp only[List.cons.injEq,AV.int.injEq,true_and,AV.agg.injEq,and_true] at hv';obtain ⟨rfl,rfl,rfl⟩:=hv';refine⟨fun g=>?_,fun g=>?_⟩
 ·have hk0:0<m:=by simpa using g
  obtain ⟨j,rfl⟩:∃j,m=j+1:=⟨m-1,by omega⟩;have b1:2*(j+1)*(2*(j+1)+1)<=34*35:=Nat.mul_le_mul (by omega) (by omega);have b2:1*1<=2*(j+1)*(2*(j+1)+1):=Nat.mul_le_mul (by omega) (by omega);have eD:IntKind.u64.wrap (wrap u64 ((2:Int)*((j+1:Nat):Int))*wrap u64 (wrap u64 ((2:Int)*((j+1:Nat):Int))+1))=((2*(j+1)*(2*(j+1)+1):Nat):Int):=by
   rw[show (2:Int)*((j+1:Nat):Int)=((2*(j+1):Nat):Int) by omega,ja (n:=2*(j+1)) (by omega),show ((2*(j+1):Nat):Int)+1=((2*(j+1)+1:Nat):Int) by omega,ja (n:=2*(j+1)+1) (by omega),<- Int.natCast_mul,ja (Nat.lt_of_le_of_lt b1 (by decide))]
  have ht:=SW sq s;have k2:=FP (tim sq s) 1 (2*(j+1)*(2*(j+1)+1)) ht b2 b2 (Nat.lt_of_le_of_lt b1 (by decide));have hle:tim sq s*1 / (2*(j+1)*(2*(j+1)+1))<340282366920938463463374607431768211456:=Nat.lt_of_le_of_lt (Nat.div_le_self _ _) (by rw[Nat.mul_one];exact ht);have k3:=zbb oneN _ Nl hle;rw[L0,show (oneN+340282366920938463463374607431768211456-tim sq s*1 / (2*(j+1)*(2*(j+1)+1))) % 340282366920938463463374607431768211456=Xn sq j s from rfl] at k3;refine⟨_,_,Ho sq s hsq hs,_,_,by rw[eD];exact k2,_,_,k3,by trivial,by trivial,by trivial,j,by omega,j,_,by omega,KW sq j s,rfl,?_,?_⟩
  ·rw[show (((j+1:Nat):Int)-1)=(j:Int) by omega,ja (by omega)];rfl
  ·rw[<- hh];unfold Yj;rw[O7]
 ·have hk0:m=0:=by simp at g;omega
  subst hk0;have hh:s=r:=by unfold Yj at hh;rw[Jy] at hh;exact hh
  subst hh;have k4:=Ho x s hx hs;rw[<- hst] at k4;have k5:=zbc st (by rw[hst];exact SW _ _);exact⟨_,_,k4,_,k5,rfl,by trivial⟩)
def ql (e:TEncl):TEncl:=⟨wrap i64 (0-e.Hi),wrap i64 (0-e.Lo)⟩
def zak (x:TEncl) (_S:SpecF) (_Fr:FreshF) (_Sq:SeqF) (Q:yc):Prop :=
 Q (.agg [iN (wrap i64 ((0:Int)-x.Hi)),iN (wrap i64 ((0:Int)-x.Lo))]) []
theorem zc4 (x:TEncl) (v:AV) (O:List (List AV)) (h:zak x Sp Fo So (fun r O'=>r=v/\O'=O)):Sp 224 [x.av] [] v O :=
 yb (w:=⟨[],[],[],[],[]⟩) (k:=0) (keep:=⟨[0,1,2],[],[],[]⟩) (boxes:=[]) mixed (by exact trivial) Tryz.func224 Tryz.call224 rfl rfl rfl (Nat.le_of_ble_eq_true rfl) (by kernel_rfl) h
theorem FN (e:TEncl):Sp 224 [e.av] [] (ql e).av []:=zc4 e _ _ ⟨rfl,rfl⟩
def qI (a:Int):Int:=(a.tmod 360000000+360000000).tmod 360000000
theorem Xt (a:Int):0<=qI a/\qI a<360000000:=by
 unfold qI;have h1:=Int.tmod_lt_of_pos a (b:=360000000) (by omega);have h2:=Int.lt_tmod_of_pos a (b:=360000000) (by omega);rw[Int.tmod_eq_emod_of_nonneg (by omega)];omega
def qh (a:Int):Nat:=(if 180000000-(qI a).tmod 180000000<(qI a).tmod 180000000 then 180000000-(qI a).tmod 180000000 else (qI a).tmod 180000000).toNat
theorem xZ (a:Int):qh a<=90000000/\(qh a:Int)=if 180000000-(qI a).tmod 180000000<(qI a).tmod 180000000 then 180000000-(qI a).tmod 180000000 else (qI a).tmod 180000000:=by
 have h:=Xt a;unfold qh;rw[Int.tmod_eq_emod_of_nonneg h.1];split<;>omega
def upE (p:Nat × Bool):TEncl:=if p.2 then ⟨p.1,p.1⟩ else ⟨p.1,p.1+1⟩
def jv (a:Int):TEncl:=if 180000000<=qI a then ql (upE (yp (qh a))) else upE (yp (qh a))
theorem H6 (a:Nat):0<=(upE (yp a)).Lo/\(upE (yp a)).Lo<=(upE (yp a)).Hi/\(upE (yp a)).Hi<=400000001:=by
 have h:=TZ a;unfold upE;split
 ·exact⟨by show (0:Int)<=((yp a).1:Nat);omega,Int.le_refl _,by show (((yp a).1:Nat):Int)<=400000001;omega⟩
 ·refine⟨?_,?_,?_⟩
  ·show (0:Int)<=((yp a).1:Nat);omega
  ·show (((yp a).1:Nat):Int)<=((yp a).1:Nat)+1;omega
  ·show (((yp a).1:Nat):Int)+1<=400000001;omega
def GM (a:Int) (S:SpecF) (_Fr:FreshF) (_Sq:SeqF) (Q:yc):Prop :=
 ∃n0 b1,S 223 [iN (if IntKind.i64.wrap ((180000000:Int)-((wrap i64 (a.tmod (360000000:Int)+(360000000:Int))).tmod (360000000:Int)).tmod (180000000:Int))<((wrap i64 (a.tmod (360000000:Int)+(360000000:Int))).tmod (360000000:Int)).tmod (180000000:Int) then wrap i64 ((180000000:Int)-((wrap i64 (a.tmod (360000000:Int)+(360000000:Int))).tmod (360000000:Int)).tmod (180000000:Int)) else ((wrap i64 (a.tmod (360000000:Int)+(360000000:Int))).tmod (360000000:Int)).tmod (180000000:Int))] [] (.tup [iN n0,.bool b1]) []/\((!b1)=true->(decide ((wrap i64 (a.tmod (360000000:Int)+(360000000:Int))).tmod (360000000:Int)>=(180000000:Int))=true->∃n7 n8,S 224 [AV.agg [iN n0,iN (wrap i64 (n0+1))]] [] (.agg [iN n7,iN n8]) []/\Q (.agg [iN n7,iN n8]) [])/\(decide ((wrap i64 (a.tmod (360000000:Int)+(360000000:Int))).tmod (360000000:Int)>=(180000000:Int))=false->Q (.agg [iN n0,iN (wrap i64 (n0+1))]) []))/\((!b1)=false->(decide ((wrap i64 (a.tmod (360000000:Int)+(360000000:Int))).tmod (360000000:Int)>=(180000000:Int))=true->∃n7 n8,S 224 [AV.agg [iN n0,iN n0]] [] (.agg [iN n7,iN n8]) []/\Q (.agg [iN n7,iN n8]) [])/\(decide ((wrap i64 (a.tmod (360000000:Int)+(360000000:Int))).tmod (360000000:Int)>=(180000000:Int))=false->Q (.agg [iN n0,iN n0]) []))
theorem zcP (a:Int) (v:AV) (O:List (List AV)) (h:GM a Sp Fo So (fun r O'=>r=v/\O'=O)):Sp 207 [iN a] [] v O :=
 yb (w:=⟨[],[],[],[],[]⟩) (k:=0) (keep:=⟨[0,2,3,4,5,6,27,32],[],[],[]⟩) (boxes:=[]) mixed (by exact trivial) Tryz.func207 Tryz.call207 rfl rfl rfl (Nat.le_of_ble_eq_true rfl) (by kernel_rfl) h
theorem Jm (a:Int):Sp 207 [.int .i64 a] [] (jv a).av []:=zcP a _ _ (by
 unfold GM;have h:=Xt a;have ht:(wrap i64 (a.tmod 360000000+360000000)).tmod 360000000=qI a:=by
  have h1:=Int.tmod_lt_of_pos a (b:=360000000) (by omega);have h2:=Int.lt_tmod_of_pos a (b:=360000000) (by omega);rw[zw6 (by omega)];rfl
 rw[ht];obtain ⟨f1,f2⟩:=xZ a;have hw:IntKind.i64.wrap (180000000-(qI a).tmod 180000000)=180000000-(qI a).tmod 180000000:=by
  rw[Int.tmod_eq_emod_of_nonneg h.1];exact zw6 (by omega)
 rw[hw,<- f2];have hs:=za9 (qh a) (by omega);have hle:=TZ (qh a);have hu:=H6 (qh a);have hw1:IntKind.i64.wrap ((((yp (qh a)).1:Nat):Int)+1)=((yp (qh a)).1:Nat)+1:=zw6 (by omega);unfold jv;refine⟨_,_,hs,fun hb=>⟨fun g=>?_,fun g=>?_⟩,fun hb=>⟨fun g=>?_,fun g=>?_⟩⟩
 ·have hb:(yp (qh a)).2=false:=by simpa using hb
  rw[if_pos (zt_ g)];have e:upE (yp (qh a))=⟨((yp (qh a)).1:Nat),((yp (qh a)).1:Nat)+1⟩:=by unfold upE;rw[hb];rfl
  rw[hw1,e];exact⟨_,_,FN ⟨((yp (qh a)).1:Nat),((yp (qh a)).1:Nat)+1⟩,rfl,rfl⟩
 ·have hb:(yp (qh a)).2=false:=by simpa using hb
  rw[if_neg (zf_ g)];have e:upE (yp (qh a))=⟨((yp (qh a)).1:Nat),((yp (qh a)).1:Nat)+1⟩:=by unfold upE;rw[hb];rfl
  rw[hw1,e];exact⟨rfl,rfl⟩
 ·have hb:(yp (qh a)).2=true:=by simpa using hb
  rw[if_pos (zt_ g)];have e:upE (yp (qh a))=⟨((yp (qh a)).1:Nat),((yp (qh a)).1:Nat)⟩:=by unfold upE;rw[hb];rfl
  rw[e];exact⟨_,_,FN ⟨((yp (qh a)).1:Nat),((yp (qh a)).1:Nat)⟩,rfl,rfl⟩
 ·have hb:(yp (qh a)).2=true:=by simpa using hb
  rw[if_neg (zf_ g)];have e:upE (yp (qh a))=⟨((yp (qh a)).1:Nat),((yp (qh a)).1:Nat)⟩:=by unfold upE;rw[hb];rfl
  rw[e];exact⟨rfl,rfl⟩)
def w7 (x y:TEncl):TEncl:=⟨if y.Lo<x.Lo then y.Lo else x.Lo,if y.Hi>x.Hi then y.Hi else x.Hi⟩
theorem yg {n:Nat} (h:n<9223372036854775807):IntKind.i64.wrap ((n:Int)+1)=((n+1:Nat):Int):=zw6 (by omega)
theorem ym {α β:Type} {f:α->β} {l:List α} {k:Nat} (h:k<l.length):∃x,l[k]? = some x/\(l.map f)[((k:Nat):Int).toNat]? = some (f x):=by
 refine⟨l[k],List.getElem?_eq_getElem h,?_⟩;rw[Int.toNat_natCast,List.getElem?_map,List.getElem?_eq_getElem h];rfl
theorem XH {α β:Type} (g:β->α->β) (z:β) {l:List α} {k:Nat} {x:α} (h:l[k]? = some x):(l.take (k+1)).foldl g z=g ((l.take k).foldl g z) x:=by
 rw[List.take_add_one,h,List.foldl_append];rfl
def GX (x:TEncl) (l:List TEncl) (_S:SpecF) (_Fr:FreshF) (_Sq:SeqF) (Q:yc):Prop :=
 ∃(I0:Nat->List AV->Prop),(∃m2,I0 m2 [iN 0,x.av])/\∀(m2:Nat) (n3 n4 n5:Int),I0 m2 [iN n3,.agg [iN n4,iN n5]]->(decide (n3<(↑(List.map TEncl.av l).length:Int))=true->∃n9 n10,((0:Int)<=n3/\(2:Nat)=(2:Nat)/\(List.map TEncl.av l)[n3.toNat]? = some (.agg [iN n9,iN n10]))/\TEncl.z0=TEncl.z0/\∃k13,k13<m2/\I0 k13 [iN (wrap i64 (n3+1)),.agg [iN (if n9<n4 then n9 else n4),iN (if n10>n5 then n10 else n5)]])/\(decide (n3<(↑(List.map TEncl.av l).length:Int))=false->Q (.agg [iN n4,iN n5]) [])
theorem zc2 (x:TEncl) (l:List TEncl) (v:AV) (O:List (List AV)) (h:GX x l Sp Fo So (fun r O'=>r=v/\O'=O)):Sp 222 [x.av,.slc 3 (List.map TEncl.av l)] [] v O :=
 yb (w:=⟨[],[],[],[],[]⟩) (k:=0) (keep:=⟨[0,1,2,4,6,7,8,9,10],[⟨2,[(9,iN 0)],[],[(2,.agg [iN 0,iN 0])],[],[],[]⟩],[],[]⟩) (boxes:=[]) mixed (by exact trivial) Tryz.func222 Tryz.call222 rfl rfl rfl (Nat.le_of_ble_eq_true rfl) (by kernel_rfl) h
theorem Hm (x:TEncl) (l:List TEncl) (hl:l.length<=1000000):Sp 222 [x.av,.slc 3 (l.map TEncl.av)] [] (l.foldl w7 x).av []:=zc2 x l _ _ (by
 unfold GX;refine⟨fun m vs=>∃k:Nat,k<=l.length/\m=l.length-k/\vs=[.int .i64 k,((l.take k).foldl w7 x).av],⟨_,0,by omega,rfl,rfl⟩,?_⟩;rintro m n3 n4 n5 ⟨k,hk,rfl,hv⟩;generalize he:(l.take k).foldl w7 x=e at hv;have hv':=hv;unfold TEncl.av TEncl.cs at hv';simp only[List.cons.injEq,AV.int.injEq,true_and,AV.agg.injEq,and_true] at hv';obtain ⟨rfl,rfl,rfl⟩:=hv';simp only[List.length_map];refine⟨fun g=>?_,fun g=>?_⟩
 ·have hlt:k<l.length:=by simpa using g
  obtain ⟨y,hy,hy'⟩:=ym (f:=TEncl.av) hlt;refine⟨y.Lo,y.Hi,⟨by omega,by trivial,hy'⟩,by trivial,_,(by omega:l.length-(k+1)<l.length-k),k+1,by omega,rfl,?_⟩;rw[yg (by omega),XH w7 x hy,he];rfl
 ·obtain rfl:k=l.length:=by simp at g;omega
  rw[List.take_length] at he;subst he;exact⟨rfl,by trivial⟩)
def We (b v:Int):Int:=wrap i64 (v+(wrap i64 ((wrap i64 (b-v)).tmod 360000000+360000000)).tmod 360000000)
def zal (b v0:Int) (_S:SpecF) (_Fr:FreshF) (_Sq:SeqF) (Q:yc):Prop :=
 Q (iN (wrap i64 (v0+(wrap i64 ((wrap i64 (b-v0)).tmod (360000000:Int)+(360000000:Int))).tmod (360000000:Int)))) [[iN v0]]
theorem zc9 (b:Int) (v0:Int) (v:AV) (O:List (List AV)) (h:zal b v0 Sp Fo So (fun r O'=>r=v/\O'=O)):Sp 229 [iN b,.ref 0 0] [[iN v0]] v O :=
 yb (w:=⟨[],[],[],[],[]⟩) (k:=0) (keep:=⟨[0,1,3],[],[],[]⟩) (boxes:=[⟨3,false,[iN v0]⟩]) mixed (by exact trivial) Tryz.func229 Tryz.call229 rfl rfl rfl (Nat.le_of_ble_eq_true rfl) (by kernel_rfl) h
theorem Hn (b v:Int):Sp 229 [.int .i64 b,.ref 0 0] [[.int .i64 v]] (.int .i64 (We b v)) [[.int .i64 v]]:=zc9 b v _ _ ⟨rfl,rfl⟩
def qc (x:TEncl) (most:Int):Bool:=decide (x.Lo>x.Hi) || (decide (x.Lo<wrap i64 (0-most)) || decide (x.Hi>most))
def zad (x:TEncl) (most:Int) (_S:SpecF) (_Fr:FreshF) (_Sq:SeqF) (Q:yc):Prop :=
 (decide (x.Lo>x.Hi)=true->Q (.bool true) [])/\(decide (x.Lo>x.Hi)=false->(decide (x.Lo<wrap i64 ((0:Int)-most))=true->Q (.bool true) [])/\(decide (x.Lo<wrap i64 ((0:Int)-most))=false->Q (.bool (decide (x.Hi>most))) []))
theorem zcL (x:TEncl) (most:Int) (v:AV) (O:List (List AV)) (h:zad x most Sp Fo So (fun r O'=>r=v/\O'=O)):Sp 201 [x.av,iN most] [] v O :=
 yb (w:=⟨[],[],[],[],[]⟩) (k:=0) (keep:=⟨[0,1,2,4],[],[],[]⟩) (boxes:=[]) mixed (by exact trivial) Tryz.func201 Tryz.call201 rfl rfl rfl (Nat.le_of_ble_eq_true rfl) (by kernel_rfl) h
theorem UU (x:TEncl) (most:Int):Sp 201 [x.av,.int .i64 most] [] (.bool (qc x most)) []:=zcL x most _ _ (by
 unfold qc;refine⟨fun h=>⟨?_,by trivial⟩,fun h=>⟨fun h2=>⟨?_,by trivial⟩,fun h2=>⟨?_,by trivial⟩⟩⟩
 ·rw[h];rfl
 ·rw[h,h2];rfl
 ·rw[h,h2];rfl)
def H5 (c:Bool) (e:TEncl):TEncl:=if c then ⟨e.Lo,100000000⟩ else e
def I8 (c:Bool) (e:TEncl):TEncl:=if c then ⟨-100000000,e.Hi⟩ else e
def NA (a:TEncl) (more:Int):TEncl :=
 let lo:=wrap i64 (a.Lo+more)
 let hi:=wrap i64 (a.Hi+more)
 I8 (decide (We 270000000 lo<=hi)) (H5 (decide (We 90000000 lo<=hi)) (w7 (jv lo) (jv hi)))
def yY (a:TEncl) (more:Int):TEncl × Int:=if qc a 3600000000 then (⟨0,0⟩,7) else (NA a more,0)
def GV (a:TEncl) (more:Int) (S:SpecF) (_Fr:FreshF) (_Sq:SeqF) (Q:yc):Prop :=
 ∃b0,S 201 [a.av,iN 3600000000] [] (.bool b0) []/\(b0=true->Q (.tup [TEncl.zero.av,iN 7]) [])/\(b0=false->∃n4 n5,S 207 [iN (wrap i64 (a.Lo+more))] [] (.agg [iN n4,iN n5]) []/\∃n7 n8,S 207 [iN (wrap i64 (a.Hi+more))] [] (.agg [iN n7,iN n8]) []/\∃n10 n11,S 222 [AV.agg [iN n4,iN n5],.slc 3 [AV.agg [iN n7,iN n8]]] [] (.agg [iN n10,iN n11]) []/\∃n13 n14,S 229 [iN 90000000,.ref 0 0] [[iN (wrap i64 (a.Lo+more))]] (iN n13) [[iN n14]]/\(decide (n13<=wrap i64 (a.Hi+more))=true->∃n18 n19,S 229 [iN 270000000,.ref 0 0] [[iN n14]] (iN n18) [[iN n19]]/\(decide (n18<=wrap i64 (a.Hi+more))=true->Q (.tup [AV.agg [iN (-100000000:Int),iN 100000000],iN 0]) [])/\(decide (n18<=wrap i64 (a.Hi+more))=false->Q (.tup [AV.agg [iN n10,iN 100000000],iN 0]) []))/\(decide (n13<=wrap i64 (a.Hi+more))=false->∃n18 n19,S 229 [iN 270000000,.ref 0 0] [[iN n14]] (iN n18) [[iN n19]]/\(decide (n18<=wrap i64 (a.Hi+more))=true->Q (.tup [AV.agg [iN (-100000000:Int),iN n11],iN 0]) [])/\(decide (n18<=wrap i64 (a.Hi+more))=false->Q (.tup [AV.agg [iN n10,iN n11],iN 0]) [])))
theorem zcZ (a:TEncl) (more:Int) (v:AV) (O:List (List AV)) (h:GV a more Sp Fo So (fun r O'=>r=v/\O'=O)):Sp 218 [a.av,iN more] [] v O :=
 yb (w:=⟨[],[],[],[],[]⟩) (k:=0) (keep:=⟨[0,1,2,4,5,6,7,8,9,11,31,36],[],[],[]⟩) (boxes:=[]) mixed (by exact trivial) Tryz.func218 Tryz.call218 rfl rfl rfl (Nat.le_of_ble_eq_true rfl) (by kernel_rfl) h
theorem FM (a:TEncl) (more:Int):Sp 218 [a.av,.int .i64 more] [] (.tup [(yY a more).1.av,.int .i64 (yY a more).2]) []:=zcZ a more _ _ (by
 unfold GV;refine⟨_,UU a 3600000000,fun h=>⟨?_,by trivial⟩,fun h=>?_⟩
 ·unfold yY;rw[if_pos h];rfl
 have hj:=Hm (jv (wrap i64 (a.Lo+more))) [jv (wrap i64 (a.Hi+more))] (by simp);have e:yY a more=(NA a more,0):=by unfold yY;rw[h];rfl
 rw[e];refine⟨_,_,Jm _,_,_,Jm _,_,_,hj,_,_,Hn _ _,fun g=>⟨_,_,Hn _ _,fun g2=>⟨?_,by trivial⟩,fun g2=>⟨?_,by trivial⟩⟩,fun g=>⟨_,_,Hn _ _,fun g2=>⟨?_,by trivial⟩,fun g2=>⟨?_,by trivial⟩⟩⟩;all_goals (unfold NA;dsimp only;rw[g,g2];rfl))
def zac (a:TEncl) (S:SpecF) (_Fr:FreshF) (_Sq:SeqF) (Q:yc):Prop :=
 ∃n0 n1 n2,S 218 [a.av,iN 0] [] (.tup [AV.agg [iN n0,iN n1],iN n2]) []/\Q (.tup [AV.agg [iN n0,iN n1],iN n2]) []
theorem zcJ (a:TEncl) (v:AV) (O:List (List AV)) (h:zac a Sp Fo So (fun r O'=>r=v/\O'=O)):Sp 199 [a.av] [] v O :=
 yb (w:=⟨[],[],[],[],[]⟩) (k:=0) (keep:=⟨[0,1,2,3],[],[],[]⟩) (boxes:=[]) mixed (by exact trivial) Tryz.func199 Tryz.call199 rfl rfl rfl (Nat.le_of_ble_eq_true rfl) (by kernel_rfl) h
theorem zaZ (a:TEncl):Sp 199 [a.av] [] (.tup [(yY a 0).1.av,.int .i64 (yY a 0).2]) []:=zcJ a _ _ ⟨_,_,_,FM a 0,rfl,rfl⟩
def zaf (a:TEncl) (S:SpecF) (_Fr:FreshF) (_Sq:SeqF) (Q:yc):Prop :=
 ∃n0 n1 n2,S 218 [a.av,iN 90000000] [] (.tup [AV.agg [iN n0,iN n1],iN n2]) []/\Q (.tup [AV.agg [iN n0,iN n1],iN n2]) []
theorem zcN (a:TEncl) (v:AV) (O:List (List AV)) (h:zaf a Sp Fo So (fun r O'=>r=v/\O'=O)):Sp 204 [a.av] [] v O :=
 yb (w:=⟨[],[],[],[],[]⟩) (k:=0) (keep:=⟨[0,1,2,3],[],[],[]⟩) (boxes:=[]) mixed (by exact trivial) Tryz.func204 Tryz.call204 rfl rfl rfl (Nat.le_of_ble_eq_true rfl) (by kernel_rfl) h
theorem za2 (a:TEncl):Sp 204 [a.av] [] (.tup [(yY a 90000000).1.av,.int .i64 (yY a 90000000).2]) []:=zcN a _ _ ⟨_,_,_,FM a 90000000,rfl,rfl⟩
end Go.Proofs.YtkojpnkknehhmaaGreatDoor

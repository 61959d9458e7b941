/- Contracts: the document's ways and spans are the program's. -/
import Derived.Test.YtkojpnkknehhmaaGreatDoorYj
import Derived.Test.YtkojpnkknehhmaaGreatDoorSm
namespace Go.Proofs.YtkojpnkknehhmaaGreatDoor
open Go.IntKind (wrap i64 u64)
open Go.RowKit
def R51 (t:TRoTask) (Q:yc):Prop :=
 ∃n0 n1 n2,Sp 9 [t.av] [] (.tup [iN n0,iN n1,iN n2]) []/\Q (iN n2) []
theorem s51 (t:TRoTask) (v O) (h:R51 t (fun r O'=>r=v/\O'=O)):Sp 51 [t.av] [] v O :=
 zS ⟨[0,1,2,5],[],[],[]⟩ Tryz.func51 Tryz.call51 rfl (by kernel_rfl) h
theorem c51 (t:TRoTask) (ht:jw t):Sp 51 [t.av] [] (.int .i64 (qg t).2.2) []:=s51 t _ _ ⟨_,_,_,c9 t ht,rfl,rfl⟩
def R91 (t:TRoTask) (i:Int) (Q:yc):Prop :=
 (decide (i<0)=true->Q (.tup [iN t.X,iN t.Y]) [])/\(decide (i<0)=false->∃s2 n3 n4 n5 n6 es7 n8 b9 n10,((0:Int)<=i/\(9:Nat)=(9:Nat)/\(List.map TRoJob.av t.Jobs)[i.toNat]? = some (.agg [AV.str s2,iN n3,iN n4,iN n5,iN n6,.slc 3 es7,iN n8,.bool b9,iN n10]))/\∃s12 n13 n14 n15 n16 es17 n18 b19 n20,((0:Int)<=i/\(9:Nat)=(9:Nat)/\(List.map TRoJob.av t.Jobs)[i.toNat]? = some (.agg [AV.str s12,iN n13,iN n14,iN n15,iN n16,.slc 3 es17,iN n18,.bool b19,iN n20]))/\Q (.tup [iN n3,iN n14]) [])
theorem s91 (t:TRoTask) (i:Int) (v O) (h:R91 t i (fun r O'=>r=v/\O'=O)):Sp 91 [t.av,iN i] [] v O :=
 zS ⟨[0,1,2,4,5,7],[],[],[]⟩ Tryz.func91 Tryz.call91 rfl (by kernel_rfl) h
theorem c91 (t:TRoTask) (i:Int) (h:i<t.Jobs.length):Sp 91 [t.av,.int .i64 i] [] (.tup [.int .i64 (atX t i),.int .i64 (atY t i)]) []:=s91 t i _ _ (by
 unfold R91;refine⟨fun g=>⟨?_,rfl⟩,fun g=>?_⟩
 ·have g:=zt_ g;rw[YU (by omega),YW (by omega)]
 ·have g:i>=0:=by have:=zf_ g;omega
  have hj:=(kV g h).1;exact⟨_,_,_,_,_,_,_,_,_,⟨g,rfl,hj⟩,_,_,_,_,_,_,_,_,_,⟨g,rfl,hj⟩,by rw[YV g,YX g],rfl⟩)
theorem JT {a b c d p:Int} (ha:-50000<=a/\a<=50000) (hb:-50000<=b/\b<=50000) (hc:-50000<=c/\c<=50000) (hd:-50000<=d/\d<=50000) :
  IntKind.i64.wrap ((wrap i64 (wrap i64 (wrap i64 ((if IntKind.i64.wrap (c-a)>wrap i64 (a-c) then wrap i64 (c-a) else wrap i64 (a-c))+if IntKind.i64.wrap (d-b)>wrap i64 (b-d) then wrap i64 (d-b) else wrap i64 (b-d))*p)+999)).tdiv 1000)=Fb a b c d p:=by
 unfold Fb;rw[zw6 (n:=c-a) (by omega),zw6 (n:=a-c) (by omega),zw6 (n:=d-b) (by omega),zw6 (n:=b-d) (by omega)];have e:∀x y:Int,(-50000<=x/\x<=50000)->(-50000<=y/\y<=50000)->∃m q:Int,vK x y=m/\xr x y=m+q/\(if y-x>x-y then y-x else x-y)=q/\(-50000<=m/\m<=50000)/\0<=q/\q<=100000:=fun x y hx hy=>by
  unfold vK xr;refine⟨_,_,rfl,(Int.add_sub_cancel _ _).symm.trans (by rw[Int.add_comm,Int.add_sub_assoc]),?_,?_,?_,?_⟩;all_goals (repeat' split)<;>omega
 obtain ⟨m,q,h1,h2,h3,h4,h5,h6⟩:=e a c ha hc;obtain ⟨n,r,k1,k2,k3,k4,k5,k6⟩:=e b d hb hd;rw[h1,h2,h3,k1,k2,k3,show m+q-m=q by omega,zw6 (n:=q) (by omega),zw6 (n:=q+(n+r)) (by omega),show q+(n+r)-n=q+r by omega]
theorem HA {t:TRoTask} (hv:w7 t) {i:Int} (h:i<t.Jobs.length):(-50000<=atX t i/\atX t i<=50000) /\ -50000<=atY t i/\atY t i<=50000:=by
 have key:∀ {x y:Int},wa x y=false->(-50000<=x/\x<=50000) /\ -50000<=y/\y<=50000:=fun h=>by
  unfold wa at h;rw[Bool.or_eq_false_iff] at h;exact⟨y7.1 h.1,y7.1 h.2⟩
 by_cases g:i>=0
 ·rw[YV g,YX g];exact key (OE (hv.job _ (kV g h).2)).2.2.1
 ·rw[YU g,YW g];exact key hv.away
def R52 (t:TRoTask) (from' to:Int) (Q:yc):Prop :=
 ∃n0 n1,Sp 91 [t.av,iN from'] [] (.tup [iN n0,iN n1]) []/\∃n3 n4,Sp 91 [t.av,iN to] [] (.tup [iN n3,iN n4]) []/\Q (iN (wrap i64 ((wrap i64 (wrap i64 (wrap i64 ((if IntKind.i64.wrap (n3-n0)>wrap i64 (n0-n3) then wrap i64 (n3-n0) else wrap i64 (n0-n3))+if IntKind.i64.wrap (n4-n1)>wrap i64 (n1-n4) then wrap i64 (n4-n1) else wrap i64 (n1-n4))*t.Pace)+999)).tdiv (1000:Int)))) []
theorem s52 (t:TRoTask) (from':Int) (to:Int) (v O) (h:R52 t from' to (fun r O'=>r=v/\O'=O)):Sp 52 [t.av,iN from',iN to] [] v O :=
 zS ⟨[0,1,2,3,6,7,8,9,10,11],[],[],[]⟩ Tryz.func52 Tryz.call52 rfl (by kernel_rfl) h
theorem c52 (t:TRoTask) (hv:w7 t) (a b:Int) (ha:a<t.Jobs.length) (hb:b<t.Jobs.length):Sp 52 [t.av,.int .i64 a,.int .i64 b] [] (.int .i64 (Qj t a b)) []:=s52 t a b _ _ (by
 obtain ⟨x1,x2⟩:=HA hv ha;obtain ⟨y1,y2⟩:=HA hv hb;refine⟨_,_,c91 t a ha,_,_,c91 t b hb,?_,rfl⟩;rw[JT x1 x2 y1 y2];rfl)
theorem Pu (t:TRoTask) (least n:Int) (h:t.Jobs.length<=1000):y8 t least n=yz n least ((t.Jobs.length:Int)-1):=by unfold y8;rw[zw6 (by omega)]
def Tc (t:TRoTask):TRoSpan:=⟨if (yZ ⟨t.City,t.Day,true⟩).1=2 then 0 else (yZ ⟨t.City,t.Day,true⟩).2.1.Hi,if (yZ ⟨t.City,t.Day,false⟩).1=2 then 172800 else (yZ ⟨t.City,t.Day,false⟩).2.1.Lo⟩
def UU (t:TRoTask):Bool:=!((yZ ⟨t.City,t.Day,true⟩).1 == 1 || ((yZ ⟨t.City,t.Day,true⟩).1 == 3 || ((yZ ⟨t.City,t.Day,false⟩).1 == 1 || (yZ ⟨t.City,t.Day,false⟩).1 == 3)))
theorem OI (t:TRoTask):wD t=if UU t then Tc t else ⟨1,0⟩:=by
 unfold wD UU Tc;generalize yZ ⟨t.City,t.Day,true⟩=r;generalize yZ ⟨t.City,t.Day,false⟩=s;by_cases h1:r.1=1<;>by_cases h2:r.1=3<;>by_cases h3:s.1=1<;>by_cases h4:s.1=3<;>simp[h1,h2,h3,h4]
def R92 (t:TRoTask) (Q:yc):Prop :=
 ∃n0 n1 n2 n3,Sp 117 [t.City.av,iN t.Day] [] (.tup [iN n0,.agg [iN n1,iN n2],iN n3]) []/\∃n5 n6 n7 n8,Sp 118 [t.City.av,iN t.Day] [] (.tup [iN n5,.agg [iN n6,iN n7],iN n8]) []/\∃(J10:List AV->Prop),(((n0 == 2)=true->t.cs=t.cs/\TEncl.z0=TEncl.z0/\yd [iN n1,iN n2]/\yd [iN n6,iN n7]/\J10 [AV.agg [iN 0,iN n6]])/\((n0 == 2)=false->t.cs=t.cs/\TEncl.z0=TEncl.z0/\yd [iN n1,iN n2]/\yd [iN n6,iN n7]/\J10 [AV.agg [iN n2,iN n6]]))/\∀(n12 n13:Int),J10 [AV.agg [iN n12,iN n13]]->∃(J15:List AV->Prop),(((n5 == 2)=true->t.cs=t.cs/\TEncl.z0=TEncl.z0/\yd [iN n1,iN n2]/\yd [iN n6,iN n7]/\J15 [AV.agg [iN n12,iN 172800]])/\((n5 == 2)=false->t.cs=t.cs/\TEncl.z0=TEncl.z0/\yd [iN n1,iN n2]/\yd [iN n6,iN n7]/\J15 [AV.agg [iN n12,iN n13]]))/\∀(n17 n18:Int),J15 [AV.agg [iN n17,iN n18]]->((n0 == 1)=true->Q (.tup [AV.agg [iN n17,iN n18],.bool false]) [])/\((n0 == 1)=false->((n0 == 3)=true->Q (.tup [AV.agg [iN n17,iN n18],.bool false]) [])/\((n0 == 3)=false->((n5 == 1)=true->Q (.tup [AV.agg [iN n17,iN n18],.bool false]) [])/\((n5 == 1)=false->Q (.tup [AV.agg [iN n17,iN n18],.bool (!(n5 == 3))]) [])))
theorem s92 (t:TRoTask) (v O) (h:R92 t (fun r O'=>r=v/\O'=O)):Sp 92 [t.av] [] v O :=
 zS ⟨[0,1,2,3,4,5,7,8,10,11,36,39],[],[⟨6,[],[],[(10,.agg [iN 0,iN 0])],[],[],[]⟩,⟨8,[],[],[(10,.agg [iN 0,iN 0])],[],[],[]⟩],[]⟩ Tryz.func92 Tryz.call92 rfl (by kernel_rfl) h
theorem c92 (t:TRoTask):Sp 92 [t.av] [] (.tup [(Tc t).av,.bool (UU t)]) []:=s92 t _ _ (by
 unfold R92 Tc UU;have k1:=zbD t.City t.Day;have k2:=zbE t.City t.Day;generalize yZ ⟨t.City,t.Day,true⟩=r at *;generalize yZ ⟨t.City,t.Day,false⟩=s at *;refine⟨_,_,_,_,k1,_,_,_,_,k2,fun vs=>vs=[.agg [.int .i64 (if r.1=2 then 0 else r.2.1.Hi),.int .i64 s.2.1.Lo]],⟨fun g=>⟨rfl,rfl,rfl,rfl,?_⟩,fun g=>⟨rfl,rfl,rfl,rfl,?_⟩⟩,?_⟩
 ·rw[if_pos (by simpa using g)]
 ·rw[if_neg (by simpa using g)]
 rintro _ _ ⟨⟩;refine⟨fun vs=>vs=[.agg [.int .i64 (if r.1=2 then 0 else r.2.1.Hi),.int .i64 (if s.1=2 then 172800 else s.2.1.Lo)]],⟨fun g=>⟨rfl,rfl,rfl,rfl,?_⟩,fun g=>⟨rfl,rfl,rfl,rfl,?_⟩⟩,?_⟩
 ·rw[if_pos (show s.1=2 by simpa using g)]
 ·rw[if_neg (show ¬ s.1=2 by simpa using g)]
 rintro _ _ ⟨⟩;refine⟨fun g=>⟨by rw[g];rfl,rfl⟩,fun g1=>⟨fun g=>⟨by rw[g1,g];rfl,rfl⟩,fun g2=>⟨fun g=>⟨by rw[g1,g2,g];rfl,rfl⟩,fun g3=>⟨by rw[g1,g2,g3];rfl,rfl⟩⟩⟩⟩)
def kz (t:TRoTask) (x:TRoJob):TRoSpan × Bool :=
 if xV (yR t x) then (⟨0,0⟩,false) else (yR t x,true)
theorem XX (s:TRoSpan):xV s=true↔s=⟨1,0⟩:=by
 unfold xV;cases s with | mk a b=>simp
def kO (t:TRoTask) (x:TRoJob):TRoSpan:=if x.Closure>=0 then ⟨xr 0 (wJ t x.Closure).From,vK 172800 (wJ t x.Closure).Until⟩ else ⟨0,172800⟩
theorem XC {a b:TRoSpan} (h:xr a.From b.From<=vK a.Until b.Until):wH a b=⟨xr a.From b.From,vK a.Until b.Until⟩:=if_neg (by omega)
theorem WX {a b:TRoSpan} (h:¬ xr a.From b.From<=vK a.Until b.Until):wH a b=⟨1,0⟩:=if_pos (by omega)
theorem Kf {t:TRoTask} (hv:w7 t) {x:TRoJob} (hx:x∈t.Jobs) (h:x.Closure>=0):(t.Closures.map TRoSpan.av)[x.Closure.toNat]? = some (wJ t x.Closure).av/\j7 (wJ t x.Closure)=false:=by
 refine⟨Nz h (hv.clo hx),hv.clos _ ?_⟩;have:=hv.clo hx;have hl:x.Closure.toNat<t.Closures.length:=by omega
 unfold wJ;rw[List.getD_eq_getElem?_getD,List.getElem?_eq_getElem hl];exact List.getElem_mem hl
theorem NZ {t:TRoTask} (hv:w7 t) {x:TRoJob} (hx:x∈t.Jobs):(kO t x).From<=(kO t x).Until/\yR t x=if x.Daylight then wH (kO t x) (wD t) else kO t x:=by
 have e:(if x.Closure>=0 then wH ⟨0,172800⟩ (wJ t x.Closure) else ⟨0,172800⟩)=kO t x/\(kO t x).From<=(kO t x).Until:=by
  unfold kO;by_cases h:x.Closure>=0
  ·have w:=(Kf hv hx h).2;unfold j7 at w;rw[Bool.or_eq_false_iff] at w;have w1:=y7.1 w.1;have w2:=y7.1 w.2;have hm:xr 0 (wJ t x.Closure).From<=vK 172800 (wJ t x.Closure).Until:=by
    unfold xr vK
    (repeat' split)<;>omega
   rw[if_pos h,if_pos h];exact⟨XC hm,hm⟩
  ·rw[if_neg h,if_neg h];exact⟨rfl,by decide⟩
 refine⟨e.2,?_⟩;unfold yR;rw[e.1]
theorem UP {t:TRoTask} {x:TRoJob} (h:yR t x=⟨1,0⟩):kz t x=(⟨0,0⟩,false):=by unfold kz;rw[h];rfl
theorem Wo {t:TRoTask} {x:TRoJob} {s:TRoSpan} (h:yR t x=s) (hs:s.From<=s.Until):kz t x=(s,true):=by
 unfold kz;rw[h,if_neg];intro hn;obtain rfl:=(XX s).1 hn;exact absurd hs (by decide)
def R53 (t:TRoTask) (i:Int) (Q:yc):Prop :=
 ∃s0 n1 n2 n3 n4 es5 n6 b7 n8,((0:Int)<=i/\(9:Nat)=(9:Nat)/\(List.map TRoJob.av t.Jobs)[i.toNat]? = some (.agg [AV.str s0,iN n1,iN n2,iN n3,iN n4,.slc 3 es5,iN n6,.bool b7,iN n8]))/\∃(J10:List AV->Prop),((decide (n6>=0)=true->∃n14 n15,((0:Int)<=n6/\(2:Nat)=(2:Nat)/\(List.map TRoSpan.av t.Closures)[n6.toNat]? = some (.agg [iN n14,iN n15]))/\t.cs=t.cs/\TEncl.z0=TEncl.z0/\yd [AV.str s0,iN n1,iN n2,iN n3,iN n4,.slc 3 es5,iN n6,.bool b7,iN n8]/\J10 [AV.agg [iN (if n14>0 then n14 else (0:Int)),iN (if n15<172800 then n15 else (172800:Int))]])/\(decide (n6>=0)=false->t.cs=t.cs/\TEncl.z0=TEncl.z0/\yd [AV.str s0,iN n1,iN n2,iN n3,iN n4,.slc 3 es5,iN n6,.bool b7,iN n8]/\J10 [AV.agg [iN 0,iN 172800]]))/\∀(n12 n13:Int),J10 [AV.agg [iN n12,iN n13]]->∃(J15:List AV->Prop),((b7=true->∃n19 n20 b21,Sp 92 [t.av] [] (.tup [AV.agg [iN n19,iN n20],.bool b21]) []/\t.cs=t.cs/\TEncl.z0=TEncl.z0/\yd [AV.str s0,iN n1,iN n2,iN n3,iN n4,.slc 3 es5,iN n6,.bool b7,iN n8]/\J15 [AV.bool b21,.agg [iN (if n19>n12 then n19 else n12),iN (if n20<n13 then n20 else n13)]])/\(b7=false->t.cs=t.cs/\TEncl.z0=TEncl.z0/\yd [AV.str s0,iN n1,iN n2,iN n3,iN n4,.slc 3 es5,iN n6,.bool b7,iN n8]/\J15 [AV.bool true,.agg [iN n12,iN n13]]))/\∀(b17:Bool) (n18 n19:Int),J15 [AV.bool b17,.agg [iN n18,iN n19]]->((!b17)=true->Q (.tup [TEncl.zero.av,.bool false]) [])/\((!b17)=false->(decide (n18>n19)=true->Q (.tup [TEncl.zero.av,.bool false]) [])/\(decide (n18>n19)=false->Q (.tup [AV.agg [iN n18,iN n19],.bool true]) []))
theorem s53 (t:TRoTask) (i:Int) (v O) (h:R53 t i (fun r O'=>r=v/\O'=O)):Sp 53 [t.av,iN i] [] v O :=
 zS ⟨[0,1,2,4,5,6,7,8,9,10,11,20,39,65],[],[⟨6,[],[],[(6,.agg [iN 0,iN 0])],[],[],[]⟩,⟨9,[(7,.bool false)],[],[(6,.agg [iN 0,iN 0])],[],[],[]⟩],[]⟩ Tryz.func53 Tryz.call53 rfl (by kernel_rfl) h
theorem c53 (t:TRoTask) (hv:w7 t) (i:Int) (h0:0<=i) (h1:i<t.Jobs.length):Sp 53 [t.av,.int .i64 i] [] (.tup [(kz t (qk t i)).1.av,.bool (kz t (qk t i)).2]) []:=s53 t i _ _ (by
 unfold R53;obtain ⟨hj,hm⟩:=kV h0 h1;generalize qk t i=x at *;obtain ⟨ho,hs⟩:=NZ hv hm;refine⟨_,_,_,_,_,_,_,_,_,⟨h0,rfl,hj⟩,fun vs=>vs=[(kO t x).av],⟨fun g=>?_,fun g=>⟨rfl,rfl,rfl,?_⟩⟩,?_⟩
 ·have g:=zt_ g;refine⟨_,_,⟨g,rfl,(Kf hv hm g).1⟩,rfl,rfl,rfl,?_⟩;unfold kO;rw[if_pos g];rfl
 ·unfold kO;rw[if_neg (zf_ g)];rfl
 rintro n2 n3 hn;have hn:[AV.agg [.int .i64 n2,.int .i64 n3]]=[.agg [.int .i64 (kO t x).From,.int .i64 (kO t x).Until]]:=hn;simp only[List.cons.injEq,AV.agg.injEq,AV.int.injEq,true_and,and_true] at hn;obtain ⟨rfl,rfl⟩:=hn;obtain ⟨p,hp⟩:∃p:TRoSpan × Bool,p=if x.Daylight then (⟨xr (kO t x).From (Tc t).From,vK (kO t x).Until (Tc t).Until⟩,UU t) else (kO t x,true):=⟨_,rfl⟩
 have key:kz t x=if p.2=true then (if p.1.From>p.1.Until then (⟨0,0⟩,false) else (p.1,true)) else (⟨0,0⟩,false):=by
  cases hd:x.Daylight with
  |false =>
   rw[hd] at hs hp;have hs:yR t x=kO t x:=hs;have hp:p=(kO t x,true):=hp;rw[Wo hs ho,hp];show _=if true=true then (if (kO t x).From>(kO t x).Until then _ else _) else _
   rw[if_pos rfl,if_neg (by omega)]
  |true =>
   rw[hd] at hs hp;rw[if_pos rfl] at hs hp;rw[OI] at hs;rw[hp];show _=if UU t=true then (if xr (kO t x).From (Tc t).From>vK (kO t x).Until (Tc t).Until then _ else _) else _
   cases hb:UU t with
   |false =>
    rw[hb] at hs;have:wH (kO t x) ⟨1,0⟩=⟨1,0⟩:=WX (by unfold xr vK;dsimp only;(repeat' split)<;>omega);rw[if_neg (by simp),this] at hs;rw[UP hs,if_neg (by simp)]
   |true =>
    rw[hb,if_pos rfl] at hs;rw[if_pos rfl];by_cases hle:xr (kO t x).From (Tc t).From<=vK (kO t x).Until (Tc t).Until
    ·rw[XC hle] at hs;rw[Wo hs hle,if_neg (by omega)]
    ·rw[WX hle] at hs;rw[UP hs,if_pos (by omega)]
 rw[key];refine⟨fun vs=>vs=[.bool p.2,p.1.av],⟨fun g=>⟨_,_,_,c92 t,rfl,rfl,rfl,?_⟩,fun g=>⟨rfl,rfl,rfl,?_⟩⟩,?_⟩
 ·have g:x.Daylight=true:=g;rw[hp,g];rfl
 ·have g:x.Daylight=false:=g;rw[hp,g];rfl
 clear key hp hs;obtain ⟨⟨f,u⟩,b⟩:=p;rintro c n4 n5 hn;have hn:[AV.bool c,.agg [.int .i64 n4,.int .i64 n5]]=[.bool b,.agg [.int .i64 f,.int .i64 u]]:=hn;simp only[List.cons.injEq,AV.agg.injEq,AV.int.injEq,AV.bool.injEq,true_and,and_true] at hn;obtain ⟨rfl,rfl,rfl⟩:=hn;refine⟨fun g=>⟨?_,rfl⟩,fun g=>⟨fun g2=>⟨?_,rfl⟩,fun g2=>⟨?_,rfl⟩⟩⟩
 ·rw[if_neg (by simpa using g)];rfl
 ·rw[if_pos (by simpa using g),if_pos (zt_ g2)];rfl
 ·rw[if_pos (by simpa using g),if_neg (zf_ g2)];rfl)
end Go.Proofs.YtkojpnkknehhmaaGreatDoor

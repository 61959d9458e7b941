/- Contracts: the document's ways and spans are the program's. The law RoundChecks. -/
import Derived.Test.YtkojpnkknehhmaaGreatDoorYj
import Derived.Test.YtkojpnkknehhmaaGreatDoorSm
namespace Go.Proofs.YtkojpnkknehhmaaGreatDoor
open Go.IntKind (wrap i64 u64)
open Go.RowKit
def R51 (t:TRoTask) (S:SpecF) (_Fr:FreshF) (_Sq:SeqF) (Q:yc):Prop :=
 ∃n0 n1 n2,S 9 [t.av] [] (.tup [iN n0,iN n1,iN n2]) []/\Q (iN n2) []
theorem s51 (t:TRoTask) (v:AV) (O:List (List AV)) (h:R51 t Sp Fo So (fun r O'=>r=v/\O'=O)):Sp 51 [t.av] [] v O :=
 yb (w:=⟨[],[],[],[],[]⟩) (k:=0) (keep:=⟨[0,1,2,5],[],[],[]⟩) (boxes:=[]) mixed (by exact trivial) Tryz.func51 Tryz.call51 rfl rfl rfl (Nat.le_of_ble_eq_true rfl) (by kernel_rfl) h
theorem c51 (t:TRoTask) (ht:jw t):Sp 51 [t.av] [] (.int .i64 (qb t).2.2) []:=s51 t _ _ ⟨_,_,_,c9 t ht,rfl,rfl⟩
def R91 (t:TRoTask) (i:Int) (_S:SpecF) (_Fr:FreshF) (_Sq:SeqF) (Q:yc):Prop :=
 (decide (i<0)=true->Q (.tup [iN t.X,iN t.Y]) [])/\(decide (i<0)=false->∃s2 n3 n4 n5 n6 es7 n8 b9 n10,((0:Int)<=i/\(9:Nat)=(9:Nat)/\(List.map TRoJob.av t.Jobs)[i.toNat]? = some (.agg [AV.str s2,iN n3,iN n4,iN n5,iN n6,.slc 3 es7,iN n8,.bool b9,iN n10]))/\∃s12 n13 n14 n15 n16 es17 n18 b19 n20,((0:Int)<=i/\(9:Nat)=(9:Nat)/\(List.map TRoJob.av t.Jobs)[i.toNat]? = some (.agg [AV.str s12,iN n13,iN n14,iN n15,iN n16,.slc 3 es17,iN n18,.bool b19,iN n20]))/\Q (.tup [iN n3,iN n14]) [])
theorem s91 (t:TRoTask) (i:Int) (v:AV) (O:List (List AV)) (h:R91 t i Sp Fo So (fun r O'=>r=v/\O'=O)):Sp 91 [t.av,iN i] [] v O :=
 yb (w:=⟨[],[],[],[],[]⟩) (k:=0) (keep:=⟨[0,1,2,4,5,7],[],[],[]⟩) (boxes:=[]) mixed (by exact trivial) Tryz.func91 Tryz.call91 rfl rfl rfl (Nat.le_of_ble_eq_true rfl) (by kernel_rfl) h
theorem c91 (t:TRoTask) (i:Int) (h:i<t.Jobs.length):Sp 91 [t.av,.int .i64 i] [] (.tup [.int .i64 (atX t i),.int .i64 (atY t i)]) []:=s91 t i _ _ (by
 unfold R91;refine⟨fun g=>⟨?_,rfl⟩,fun g=>?_⟩
 ·have g:=zt_ g;rw[YR (by omega),YT (by omega)]
 ·have g:i>=0:=by have:=zf_ g;omega
  have hj:=(wO g h).1;exact⟨_,_,_,_,_,_,_,_,_,⟨g,rfl,hj⟩,_,_,_,_,_,_,_,_,_,⟨g,rfl,hj⟩,by rw[YS g,YU g],rfl⟩)
theorem K7 {a b c d p:Int} (ha:-50000<=a/\a<=50000) (hb:-50000<=b/\b<=50000) (hc:-50000<=c/\c<=50000) (hd:-50000<=d/\d<=50000) :
  IntKind.i64.wrap ((wrap i64 (wrap i64 (wrap i64 ((if IntKind.i64.wrap (c-a)>wrap i64 (a-c) then wrap i64 (c-a) else wrap i64 (a-c))+if IntKind.i64.wrap (d-b)>wrap i64 (b-d) then wrap i64 (d-b) else wrap i64 (b-d))*p)+999)).tdiv 1000)=Ga a b c d p:=by
 unfold Ga;rw[zw6 (n:=c-a) (by omega),zw6 (n:=a-c) (by omega),zw6 (n:=d-b) (by omega),zw6 (n:=b-d) (by omega)];have e:∀x y:Int,(-50000<=x/\x<=50000)->(-50000<=y/\y<=50000)->∃m q:Int,vZ x y=m/\xR x y=m+q/\(if y-x>x-y then y-x else x-y)=q/\(-50000<=m/\m<=50000)/\0<=q/\q<=100000:=fun x y hx hy=>by
  unfold vZ xR;refine⟨_,_,rfl,(Int.add_sub_cancel _ _).symm.trans (by rw[Int.add_comm,Int.add_sub_assoc]),?_,?_,?_,?_⟩;all_goals (repeat' split)<;>omega
 obtain ⟨m,q,h1,h2,h3,h4,h5,h6⟩:=e a c ha hc;obtain ⟨n,r,k1,k2,k3,k4,k5,k6⟩:=e b d hb hd;rw[h1,h2,h3,k1,k2,k3,show m+q-m=q by omega,zw6 (n:=q) (by omega),zw6 (n:=q+(n+r)) (by omega),show q+(n+r)-n=q+r by omega]
theorem Is {t:TRoTask} (hv:ub t) {i:Int} (h:i<t.Jobs.length):(-50000<=atX t i/\atX t i<=50000) /\ -50000<=atY t i/\atY t i<=50000:=by
 have key:∀ {x y:Int},k9 x y=false->(-50000<=x/\x<=50000) /\ -50000<=y/\y<=50000:=fun h=>by
  unfold k9 at h;rw[Bool.or_eq_false_iff] at h;exact⟨yS.1 h.1,yS.1 h.2⟩
 by_cases g:i>=0
 ·rw[YS g,YU g];exact key (P7 (hv.job _ (wO g h).2)).2.2.1
 ·rw[YR g,YT g];exact key hv.away
def R52 (t:TRoTask) (from' to:Int) (S:SpecF) (_Fr:FreshF) (_Sq:SeqF) (Q:yc):Prop :=
 ∃n0 n1,S 91 [t.av,iN from'] [] (.tup [iN n0,iN n1]) []/\∃n3 n4,S 91 [t.av,iN to] [] (.tup [iN n3,iN n4]) []/\Q (iN (wrap i64 ((wrap i64 (wrap i64 (wrap i64 ((if IntKind.i64.wrap (n3-n0)>wrap i64 (n0-n3) then wrap i64 (n3-n0) else wrap i64 (n0-n3))+if IntKind.i64.wrap (n4-n1)>wrap i64 (n1-n4) then wrap i64 (n4-n1) else wrap i64 (n1-n4))*t.Pace)+999)).tdiv (1000:Int)))) []
theorem s52 (t:TRoTask) (from':Int) (to:Int) (v:AV) (O:List (List AV)) (h:R52 t from' to Sp Fo So (fun r O'=>r=v/\O'=O)):Sp 52 [t.av,iN from',iN to] [] v O :=
 yb (w:=⟨[],[],[],[],[]⟩) (k:=0) (keep:=⟨[0,1,2,3,6,7,8,9,10,11],[],[],[]⟩) (boxes:=[]) mixed (by exact trivial) Tryz.func52 Tryz.call52 rfl rfl rfl (Nat.le_of_ble_eq_true rfl) (by kernel_rfl) h
theorem c52 (t:TRoTask) (hv:ub t) (a b:Int) (ha:a<t.Jobs.length) (hb:b<t.Jobs.length):Sp 52 [t.av,.int .i64 a,.int .i64 b] [] (.int .i64 (SZ t a b)) []:=s52 t a b _ _ (by
 obtain ⟨x1,x2⟩:=Is hv ha;obtain ⟨y1,y2⟩:=Is hv hb;refine⟨_,_,c91 t a ha,_,_,c91 t b hb,?_,rfl⟩;rw[K7 x1 x2 y1 y2];rfl)
theorem Uv (t:TRoTask) (least n:Int) (h:t.Jobs.length<=1000):yX t least n=yD n least ((t.Jobs.length:Int)-1):=by unfold yX;rw[zw6 (by omega)]
def R11 (t:TRoTask) (from' to:Int) (S:SpecF) (_Fr:FreshF) (_Sq:SeqF) (Q:yc):Prop :=
 ∃n0,S 51 [t.av] [] (iN n0) []/\∃(J2:List AV->Prop),(((n0 == 0)=true->∃b6,S 44 [iN from',iN (-1:Int),iN (wrap i64 ((↑(List.map TRoJob.av t.Jobs).length:Int)-(1:Int)))] [] (.bool b6) []/\((!b6)=true->t.cs=t.cs/\J2 [iN 4])/\((!b6)=false->∃b10,S 44 [iN to,iN (-1:Int),iN (wrap i64 ((↑(List.map TRoJob.av t.Jobs).length:Int)-(1:Int)))] [] (.bool b10) []/\((!b10)=true->t.cs=t.cs/\J2 [iN 4])/\((!b10)=false->t.cs=t.cs/\J2 [iN n0])))/\((n0 == 0)=false->t.cs=t.cs/\J2 [iN n0]))/\∀(n4:Int),J2 [iN n4]->((n4 != 0)=true->Q (.tup [iN 0,iN n4]) [])/\((n4 != 0)=false->∃n8,S 52 [t.av,iN from',iN to] [] (iN n8) []/\Q (.tup [iN n8,iN 0]) [])
theorem s11 (t:TRoTask) (from':Int) (to:Int) (v:AV) (O:List (List AV)) (h:R11 t from' to Sp Fo So (fun r O'=>r=v/\O'=O)):Sp 11 [t.av,iN from',iN to] [] v O :=
 yb (w:=⟨[],[],[],[],[]⟩) (k:=0) (keep:=⟨[0,1,2,3,6,7,8,30,32],[],[⟨4,[(8,iN 0)],[],[],[],[],[]⟩],[]⟩) (boxes:=[]) mixed (by exact trivial) Tryz.func11 Tryz.call11 rfl rfl rfl (Nat.le_of_ble_eq_true rfl) (by kernel_rfl) h
theorem c11 (t:TRoTask) (ht:jw t) (a b:Int):Sp 11 [t.av,.int .i64 a,.int .i64 b] [] (.tup [.int .i64 (vL t a b).1,.int .i64 (vL t a b).2]) []:=s11 t a b _ _ (by
 unfold R11 vL;simp only[List.length_map];by_cases he:(qb t).2.2≠0
 ·rw[if_pos he];refine⟨_,c51 t ht,fun vs=>vs=[.int .i64 (qb t).2.2],⟨fun g=>absurd (by simpa using g) he,fun _=>⟨by trivial,rfl⟩⟩,?_⟩;rintro _ ⟨⟩;exact⟨fun _=>⟨rfl,by trivial⟩,fun g=>absurd (by simpa using g) he⟩
 rw[if_neg he];have hv:=xF (Decidable.not_not.1 he);have hjl:=hv.jl;have hz:=Decidable.not_not.1 he;rw[List.any_cons,List.any_cons,List.any_nil,Bool.or_false,Uv t _ _ (by omega),Uv t _ _ (by omega)];obtain ⟨e,hE⟩:∃e:Int,e=if (yD a (-1) ((t.Jobs.length:Int)-1) || yD b (-1) ((t.Jobs.length:Int)-1))=true then 4 else 0:=⟨_,rfl⟩
 refine⟨_,c51 t ht,fun vs=>vs=[.int .i64 e],⟨fun _=>?_,fun g=>?_⟩,?_⟩
 ·rw[zw6 (n:=(t.Jobs.length:Int)-1) (by omega)];refine⟨_,c44 ..,fun g=>⟨by trivial,?_⟩,fun g=>⟨_,c44 ..,fun g2=>⟨by trivial,?_⟩,fun g2=>⟨by trivial,?_⟩⟩⟩;all_goals (simp only[Bool.not_not,Bool.not_eq_false'] at *;rw[hE];simp[*])
 ·rw[hz] at g;cases g
 rintro _ ⟨⟩;cases h1:yD a (-1) ((t.Jobs.length:Int)-1)<;>cases h2:yD b (-1) ((t.Jobs.length:Int)-1)<;>rw[h1,h2] at hE<;>subst hE
 ·have h1:=yS.1 h1;have h2:=yS.1 h2;exact⟨fun g=>(by cases g),fun _=>⟨_,c52 t hv a b (by omega) (by omega),rfl,by trivial⟩⟩
 all_goals exact⟨fun _=>⟨rfl,by trivial⟩,fun g=>(by cases g)⟩)
def UX (t:TRoTask):TRoSpan:=⟨if (y8 ⟨t.City,t.Day,true⟩).1=2 then 0 else (y8 ⟨t.City,t.Day,true⟩).2.1.Hi,if (y8 ⟨t.City,t.Day,false⟩).1=2 then 172800 else (y8 ⟨t.City,t.Day,false⟩).2.1.Lo⟩
def UG (t:TRoTask):Bool:=!((y8 ⟨t.City,t.Day,true⟩).1 == 1 || ((y8 ⟨t.City,t.Day,true⟩).1 == 3 || ((y8 ⟨t.City,t.Day,false⟩).1 == 1 || (y8 ⟨t.City,t.Day,false⟩).1 == 3)))
theorem Oa (t:TRoTask):qY t=if UG t then UX t else ⟨1,0⟩:=by
 unfold qY UG UX;generalize y8 ⟨t.City,t.Day,true⟩=r;generalize y8 ⟨t.City,t.Day,false⟩=s;by_cases h1:r.1=1<;>by_cases h2:r.1=3<;>by_cases h3:s.1=1<;>by_cases h4:s.1=3<;>simp[h1,h2,h3,h4]
def R92 (t:TRoTask) (S:SpecF) (_Fr:FreshF) (_Sq:SeqF) (Q:yc):Prop :=
 ∃n0 n1 n2 n3,S 117 [t.City.av,iN t.Day] [] (.tup [iN n0,.agg [iN n1,iN n2],iN n3]) []/\∃n5 n6 n7 n8,S 118 [t.City.av,iN t.Day] [] (.tup [iN n5,.agg [iN n6,iN n7],iN n8]) []/\∃(J10:List AV->Prop),(((n0 == 2)=true->t.cs=t.cs/\TEncl.z0=TEncl.z0/\ye [iN n1,iN n2]/\ye [iN n6,iN n7]/\J10 [AV.agg [iN 0,iN n6]])/\((n0 == 2)=false->t.cs=t.cs/\TEncl.z0=TEncl.z0/\ye [iN n1,iN n2]/\ye [iN n6,iN n7]/\J10 [AV.agg [iN n2,iN n6]]))/\∀(n12 n13:Int),J10 [AV.agg [iN n12,iN n13]]->∃(J15:List AV->Prop),(((n5 == 2)=true->t.cs=t.cs/\TEncl.z0=TEncl.z0/\ye [iN n1,iN n2]/\ye [iN n6,iN n7]/\J15 [AV.agg [iN n12,iN 172800]])/\((n5 == 2)=false->t.cs=t.cs/\TEncl.z0=TEncl.z0/\ye [iN n1,iN n2]/\ye [iN n6,iN n7]/\J15 [AV.agg [iN n12,iN n13]]))/\∀(n17 n18:Int),J15 [AV.agg [iN n17,iN n18]]->((n0 == 1)=true->Q (.tup [AV.agg [iN n17,iN n18],.bool false]) [])/\((n0 == 1)=false->((n0 == 3)=true->Q (.tup [AV.agg [iN n17,iN n18],.bool false]) [])/\((n0 == 3)=false->((n5 == 1)=true->Q (.tup [AV.agg [iN n17,iN n18],.bool false]) [])/\((n5 == 1)=false->Q (.tup [AV.agg [iN n17,iN n18],.bool (!(n5 == 3))]) [])))
theorem s92 (t:TRoTask) (v:AV) (O:List (List AV)) (h:R92 t Sp Fo So (fun r O'=>r=v/\O'=O)):Sp 92 [t.av] [] v O :=
 yb (w:=⟨[],[],[],[],[]⟩) (k:=0) (keep:=⟨[0,1,2,3,4,5,7,8,10,11,36,39],[],[⟨6,[],[],[(10,.agg [iN 0,iN 0])],[],[],[]⟩,⟨8,[],[],[(10,.agg [iN 0,iN 0])],[],[],[]⟩],[]⟩) (boxes:=[]) mixed (by exact trivial) Tryz.func92 Tryz.call92 rfl rfl rfl (Nat.le_of_ble_eq_true rfl) (by kernel_rfl) h
theorem c92 (t:TRoTask):Sp 92 [t.av] [] (.tup [(UX t).av,.bool (UG t)]) []:=s92 t _ _ (by
 unfold R92 UX UG;have k1:=zay t.City t.Day;have k2:=zaz t.City t.Day;generalize y8 ⟨t.City,t.Day,true⟩=r at *;generalize y8 ⟨t.City,t.Day,false⟩=s at *;refine⟨_,_,_,_,k1,_,_,_,_,k2,fun vs=>vs=[.agg [.int .i64 (if r.1=2 then 0 else r.2.1.Hi),.int .i64 s.2.1.Lo]],⟨fun g=>⟨rfl,rfl,rfl,rfl,?_⟩,fun g=>⟨rfl,rfl,rfl,rfl,?_⟩⟩,?_⟩
 ·rw[if_pos (by simpa using g)]
 ·rw[if_neg (by simpa using g)]
 rintro _ _ ⟨⟩;refine⟨fun vs=>vs=[.agg [.int .i64 (if r.1=2 then 0 else r.2.1.Hi),.int .i64 (if s.1=2 then 172800 else s.2.1.Lo)]],⟨fun g=>⟨rfl,rfl,rfl,rfl,?_⟩,fun g=>⟨rfl,rfl,rfl,rfl,?_⟩⟩,?_⟩
 ·rw[if_pos (show s.1=2 by simpa using g)]
 ·rw[if_neg (show ¬ s.1=2 by simpa using g)]
 rintro _ _ ⟨⟩;refine⟨fun g=>⟨by rw[g];rfl,rfl⟩,fun g1=>⟨fun g=>⟨by rw[g1,g];rfl,rfl⟩,fun g2=>⟨fun g=>⟨by rw[g1,g2,g];rfl,rfl⟩,fun g3=>⟨by rw[g1,g2,g3];rfl,rfl⟩⟩⟩⟩)
def xC (t:TRoTask) (x:TRoJob):TRoSpan × Bool :=
 if xa (yd t x) then (⟨0,0⟩,false) else (yd t x,true)
theorem Mo (s:TRoSpan):xa s=true↔s=⟨1,0⟩:=by
 unfold xa;cases s with | mk a b=>simp
def wA (t:TRoTask) (x:TRoJob):TRoSpan:=if x.Closure>=0 then ⟨xR 0 (yT t x.Closure).From,vZ 172800 (yT t x.Closure).Until⟩ else ⟨0,172800⟩
theorem Tj {a b:TRoSpan} (h:xR a.From b.From<=vZ a.Until b.Until):yB a b=⟨xR a.From b.From,vZ a.Until b.Until⟩:=if_neg (by omega)
theorem Qd {a b:TRoSpan} (h:¬ xR a.From b.From<=vZ a.Until b.Until):yB a b=⟨1,0⟩:=if_pos (by omega)
theorem Lx {t:TRoTask} (hv:ub t) {x:TRoJob} (hx:x∈t.Jobs) (h:x.Closure>=0):(t.Closures.map TRoSpan.av)[x.Closure.toNat]? = some (yT t x.Closure).av/\j8 (yT t x.Closure)=false:=by
 refine⟨wL h (hv.clo hx),hv.clos _ ?_⟩;have:=hv.clo hx;have hl:x.Closure.toNat<t.Closures.length:=by omega
 unfold yT;rw[List.getD_eq_getElem?_getD,List.getElem?_eq_getElem hl];exact List.getElem_mem hl
theorem JT {t:TRoTask} (hv:ub t) {x:TRoJob} (hx:x∈t.Jobs):(wA t x).From<=(wA t x).Until/\yd t x=if x.Daylight then yB (wA t x) (qY t) else wA t x:=by
 have e:(if x.Closure>=0 then yB ⟨0,172800⟩ (yT t x.Closure) else ⟨0,172800⟩)=wA t x/\(wA t x).From<=(wA t x).Until:=by
  unfold wA;by_cases h:x.Closure>=0
  ·have w:=(Lx hv hx h).2;unfold j8 at w;rw[Bool.or_eq_false_iff] at w;have w1:=yS.1 w.1;have w2:=yS.1 w.2;have hm:xR 0 (yT t x.Closure).From<=vZ 172800 (yT t x.Closure).Until:=by
    unfold xR vZ
    (repeat' split)<;>omega
   rw[if_pos h,if_pos h];exact⟨Tj hm,hm⟩
  ·rw[if_neg h,if_neg h];exact⟨rfl,by decide⟩
 refine⟨e.2,?_⟩;unfold yd;rw[e.1]
theorem UB {t:TRoTask} {x:TRoJob} (h:yd t x=⟨1,0⟩):xC t x=(⟨0,0⟩,false):=by unfold xC;rw[h];rfl
theorem Wg {t:TRoTask} {x:TRoJob} {s:TRoSpan} (h:yd t x=s) (hs:s.From<=s.Until):xC t x=(s,true):=by
 unfold xC;rw[h,if_neg];intro hn;obtain rfl:=(Mo s).1 hn;exact absurd hs (by decide)
def R53 (t:TRoTask) (i:Int) (S:SpecF) (_Fr:FreshF) (_Sq:SeqF) (Q:yc):Prop :=
 ∃s0 n1 n2 n3 n4 es5 n6 b7 n8,((0:Int)<=i/\(9:Nat)=(9:Nat)/\(List.map TRoJob.av t.Jobs)[i.toNat]? = some (.agg [AV.str s0,iN n1,iN n2,iN n3,iN n4,.slc 3 es5,iN n6,.bool b7,iN n8]))/\∃(J10:List AV->Prop),((decide (n6>=0)=true->∃n14 n15,((0:Int)<=n6/\(2:Nat)=(2:Nat)/\(List.map TRoSpan.av t.Closures)[n6.toNat]? = some (.agg [iN n14,iN n15]))/\t.cs=t.cs/\TEncl.z0=TEncl.z0/\ye [AV.str s0,iN n1,iN n2,iN n3,iN n4,.slc 3 es5,iN n6,.bool b7,iN n8]/\J10 [AV.agg [iN (if n14>0 then n14 else (0:Int)),iN (if n15<172800 then n15 else (172800:Int))]])/\(decide (n6>=0)=false->t.cs=t.cs/\TEncl.z0=TEncl.z0/\ye [AV.str s0,iN n1,iN n2,iN n3,iN n4,.slc 3 es5,iN n6,.bool b7,iN n8]/\J10 [AV.agg [iN 0,iN 172800]]))/\∀(n12 n13:Int),J10 [AV.agg [iN n12,iN n13]]->∃(J15:List AV->Prop),((b7=true->∃n19 n20 b21,S 92 [t.av] [] (.tup [AV.agg [iN n19,iN n20],.bool b21]) []/\t.cs=t.cs/\TEncl.z0=TEncl.z0/\ye [AV.str s0,iN n1,iN n2,iN n3,iN n4,.slc 3 es5,iN n6,.bool b7,iN n8]/\J15 [AV.bool b21,.agg [iN (if n19>n12 then n19 else n12),iN (if n20<n13 then n20 else n13)]])/\(b7=false->t.cs=t.cs/\TEncl.z0=TEncl.z0/\ye [AV.str s0,iN n1,iN n2,iN n3,iN n4,.slc 3 es5,iN n6,.bool b7,iN n8]/\J15 [AV.bool true,.agg [iN n12,iN n13]]))/\∀(b17:Bool) (n18 n19:Int),J15 [AV.bool b17,.agg [iN n18,iN n19]]->((!b17)=true->Q (.tup [TEncl.zero.av,.bool false]) [])/\((!b17)=false->(decide (n18>n19)=true->Q (.tup [TEncl.zero.av,.bool false]) [])/\(decide (n18>n19)=false->Q (.tup [AV.agg [iN n18,iN n19],.bool true]) []))
theorem s53 (t:TRoTask) (i:Int) (v:AV) (O:List (List AV)) (h:R53 t i Sp Fo So (fun r O'=>r=v/\O'=O)):Sp 53 [t.av,iN i] [] v O :=
 yb (w:=⟨[],[],[],[],[]⟩) (k:=0) (keep:=⟨[0,1,2,4,5,6,7,8,9,10,11,20,39,65],[],[⟨6,[],[],[(6,.agg [iN 0,iN 0])],[],[],[]⟩,⟨9,[(7,.bool false)],[],[(6,.agg [iN 0,iN 0])],[],[],[]⟩],[]⟩) (boxes:=[]) mixed (by exact trivial) Tryz.func53 Tryz.call53 rfl rfl rfl (Nat.le_of_ble_eq_true rfl) (by kernel_rfl) h
theorem c53 (t:TRoTask) (hv:ub t) (i:Int) (h0:0<=i) (h1:i<t.Jobs.length):Sp 53 [t.av,.int .i64 i] [] (.tup [(xC t (qi t i)).1.av,.bool (xC t (qi t i)).2]) []:=s53 t i _ _ (by
 unfold R53;obtain ⟨hj,hm⟩:=wO h0 h1;generalize qi t i=x at *;obtain ⟨ho,hs⟩:=JT hv hm;refine⟨_,_,_,_,_,_,_,_,_,⟨h0,rfl,hj⟩,fun vs=>vs=[(wA t x).av],⟨fun g=>?_,fun g=>⟨rfl,rfl,rfl,?_⟩⟩,?_⟩
 ·have g:=zt_ g;refine⟨_,_,⟨g,rfl,(Lx hv hm g).1⟩,rfl,rfl,rfl,?_⟩;unfold wA;rw[if_pos g];rfl
 ·unfold wA;rw[if_neg (zf_ g)];rfl
 rintro n2 n3 hn;have hn:[AV.agg [.int .i64 n2,.int .i64 n3]]=[.agg [.int .i64 (wA t x).From,.int .i64 (wA t x).Until]]:=hn;simp only[List.cons.injEq,AV.agg.injEq,AV.int.injEq,true_and,and_true] at hn;obtain ⟨rfl,rfl⟩:=hn;obtain ⟨p,hp⟩:∃p:TRoSpan × Bool,p=if x.Daylight then (⟨xR (wA t x).From (UX t).From,vZ (wA t x).Until (UX t).Until⟩,UG t) else (wA t x,true):=⟨_,rfl⟩
 have key:xC t x=if p.2=true then (if p.1.From>p.1.Until then (⟨0,0⟩,false) else (p.1,true)) else (⟨0,0⟩,false):=by
  cases hd:x.Daylight with
  |false =>
   rw[hd] at hs hp;have hs:yd t x=wA t x:=hs;have hp:p=(wA t x,true):=hp;rw[Wg hs ho,hp];show _=if true=true then (if (wA t x).From>(wA t x).Until then _ else _) else _
   rw[if_pos rfl,if_neg (by omega)]
  |true =>
   rw[hd] at hs hp;rw[if_pos rfl] at hs hp;rw[Oa] at hs;rw[hp];show _=if UG t=true then (if xR (wA t x).From (UX t).From>vZ (wA t x).Until (UX t).Until then _ else _) else _
   cases hb:UG t with
   |false =>
    rw[hb] at hs;have:yB (wA t x) ⟨1,0⟩=⟨1,0⟩:=Qd (by unfold xR vZ;dsimp only;(repeat' split)<;>omega);rw[if_neg (by simp),this] at hs;rw[UB hs,if_neg (by simp)]
   |true =>
    rw[hb,if_pos rfl] at hs;rw[if_pos rfl];by_cases hle:xR (wA t x).From (UX t).From<=vZ (wA t x).Until (UX t).Until
    ·rw[Tj hle] at hs;rw[Wg hs hle,if_neg (by omega)]
    ·rw[Qd hle] at hs;rw[UB hs,if_pos (by omega)]
 rw[key];refine⟨fun vs=>vs=[.bool p.2,p.1.av],⟨fun g=>⟨_,_,_,c92 t,rfl,rfl,rfl,?_⟩,fun g=>⟨rfl,rfl,rfl,?_⟩⟩,?_⟩
 ·have g:x.Daylight=true:=g;rw[hp,g];rfl
 ·have g:x.Daylight=false:=g;rw[hp,g];rfl
 clear key hp hs;obtain ⟨⟨f,u⟩,b⟩:=p;rintro c n4 n5 hn;have hn:[AV.bool c,.agg [.int .i64 n4,.int .i64 n5]]=[.bool b,.agg [.int .i64 f,.int .i64 u]]:=hn;simp only[List.cons.injEq,AV.agg.injEq,AV.int.injEq,AV.bool.injEq,true_and,and_true] at hn;obtain ⟨rfl,rfl,rfl⟩:=hn;refine⟨fun g=>⟨?_,rfl⟩,fun g=>⟨fun g2=>⟨?_,rfl⟩,fun g2=>⟨?_,rfl⟩⟩⟩
 ·rw[if_neg (by simpa using g)];rfl
 ·rw[if_pos (by simpa using g),if_pos (zt_ g2)];rfl
 ·rw[if_pos (by simpa using g),if_neg (zf_ g2)];rfl)
def R13 (t:TRoTask) (job:Int) (S:SpecF) (_Fr:FreshF) (_Sq:SeqF) (Q:yc):Prop :=
 ∃n0,S 51 [t.av] [] (iN n0) []/\∃(J2:List AV->Prop),(((n0 == 0)=true->∃b6,S 44 [iN job,iN 0,iN (wrap i64 ((↑(List.map TRoJob.av t.Jobs).length:Int)-(1:Int)))] [] (.bool b6) []/\((!b6)=true->t.cs=t.cs/\TEncl.z0=TEncl.z0/\J2 [iN 4])/\((!b6)=false->t.cs=t.cs/\TEncl.z0=TEncl.z0/\J2 [iN n0]))/\((n0 == 0)=false->t.cs=t.cs/\TEncl.z0=TEncl.z0/\J2 [iN n0]))/\∀(n4:Int),J2 [iN n4]->((n4 != 0)=true->Q (.tup [TEncl.zero.av,.bool false,iN n4]) [])/\((n4 != 0)=false->∃n8 n9 b10,S 53 [t.av,iN job] [] (.tup [AV.agg [iN n8,iN n9],.bool b10]) []/\Q (.tup [AV.agg [iN n8,iN n9],.bool b10,iN 0]) [])
theorem s13 (t:TRoTask) (job:Int) (v:AV) (O:List (List AV)) (h:R13 t job Sp Fo So (fun r O'=>r=v/\O'=O)):Sp 13 [t.av,iN job] [] v O :=
 yb (w:=⟨[],[],[],[],[]⟩) (k:=0) (keep:=⟨[0,1,2,4,5,6,7,8,9,22,24],[],[⟨4,[(7,iN 0)],[],[],[],[],[]⟩],[]⟩) (boxes:=[]) mixed (by exact trivial) Tryz.func13 Tryz.call13 rfl rfl rfl (Nat.le_of_ble_eq_true rfl) (by kernel_rfl) h
theorem c13 (t:TRoTask) (ht:jw t) (n:Int):Sp 13 [t.av,.int .i64 n] [] (.tup [(Xm t n).1.av,.bool (Xm t n).2.1,.int .i64 (Xm t n).2.2]) []:=s13 t n _ _ (by
 unfold R13 Xm;simp only[List.length_map];by_cases he:(qb t).2.2≠0
 ·rw[if_pos he];refine⟨_,c51 t ht,fun vs=>vs=[.int .i64 (qb t).2.2],⟨fun g=>absurd (by simpa using g) he,fun _=>⟨by trivial,by trivial,rfl⟩⟩,?_⟩;rintro _ ⟨⟩;exact⟨fun _=>⟨rfl,by trivial⟩,fun g=>absurd (by simpa using g) he⟩
 rw[if_neg he];have hv:=xF (Decidable.not_not.1 he);have hjl:=hv.jl;have hz:=Decidable.not_not.1 he;rw[Uv t _ _ (by omega)];obtain ⟨e,hE⟩:∃e:Int,e=if yD n 0 ((t.Jobs.length:Int)-1)=true then 4 else 0:=⟨_,rfl⟩
 refine⟨_,c51 t ht,fun vs=>vs=[.int .i64 e],⟨fun _=>?_,fun g=>?_⟩,?_⟩
 ·rw[zw6 (n:=(t.Jobs.length:Int)-1) (by omega)];refine⟨_,c44 ..,fun g=>⟨by trivial,by trivial,?_⟩,fun g=>⟨by trivial,by trivial,?_⟩⟩;all_goals (simp only[Bool.not_not,Bool.not_eq_false'] at *;rw[hE];simp[*])
 ·rw[hz] at g;cases g
 rintro _ ⟨⟩;cases h1:yD n 0 ((t.Jobs.length:Int)-1)<;>rw[h1] at hE<;>subst hE
 ·have h1:=yS.1 h1;refine⟨fun g=>(by cases g),fun _=>⟨_,_,_,c53 t hv n (by omega) (by omega),?_,by trivial⟩⟩;unfold xC;cases xa (yd t (qi t n))<;>rfl
 ·exact⟨fun _=>⟨rfl,by trivial⟩,fun g=>(by cases g)⟩)
theorem Uu {P:Prop} {n:Int} (h:(n != n)=true):P:=by simp at h
def R3 (t:TRoTask) (x0 x1:Int) (S:SpecF) (_Fr:FreshF) (_Sq:SeqF) (Q:yc):Prop :=
 ∃n0 n1 n2,S 8 [t.av] [] (.tup [iN n0,iN n1,iN n2]) []/\∃n4 n5 n6,S 9 [t.av] [] (.tup [iN n4,iN n5,iN n6]) []/\((n0 != n4)=true->Q (.bool false) [])/\((n0 != n4)=false->((n1 != n5)=true->Q (.bool false) [])/\((n1 != n5)=false->((n2 != n6)=true->Q (.bool false) [])/\((n2 != n6)=false->∃n14 n15,S 10 [t.av,iN x0,iN x1] [] (.tup [iN n14,iN n15]) []/\∃n17 n18,S 11 [t.av,iN x0,iN x1] [] (.tup [iN n17,iN n18]) []/\((n14 != n17)=true->Q (.bool false) [])/\((n14 != n17)=false->((n15 != n18)=true->Q (.bool false) [])/\((n15 != n18)=false->∃n24 n25 b26 n27,S 12 [t.av,iN x0] [] (.tup [AV.agg [iN n24,iN n25],.bool b26,iN n27]) []/\∃n29 n30 b31 n32,S 13 [t.av,iN x0] [] (.tup [AV.agg [iN n29,iN n30],.bool b31,iN n32]) []/\((n24 == n29 && (n25 == n30 && true))=true->((b26 == b31)=true->((n27 == n32)=true->∃b40,S 14 [] [] (.bool b40) []/\Q (.bool b40) [])/\((n27 == n32)=false->Q (.bool false) []))/\((b26 == b31)=false->Q (.bool false) []))/\((n24 == n29 && (n25 == n30 && true))=false->Q (.bool false) []))))))
theorem s3 (t:TRoTask) (x0:Int) (x1:Int) (v:AV) (O:List (List AV)) (h:R3 t x0 x1 Sp Fo So (fun r O'=>r=v/\O'=O)):Sp 3 [t.av,.agg [iN x0,iN x1]] [] v O :=
 yb (w:=⟨[],[],[],[],[]⟩) (k:=0) (keep:=⟨[0,1,2,3,4,5,6,7,8,9,10,11,12,13,14,15,16,41,67],[],[],[]⟩) (boxes:=[]) mixed (by exact trivial) Tryz.func3 Tryz.call3 rfl rfl rfl (Nat.le_of_ble_eq_true rfl) (by kernel_rfl) h
theorem cL3 (t:TRoTask) (ht:jw t) (a b:Int):Sp 3 [t.av,.agg [.int .i64 a,.int .i64 b]] [] (.bool true) []:=s3 t a b _ _ (by
 unfold R3;refine⟨_,_,_,c8 t ht,_,_,_,c9 t ht,Uu,fun _=>⟨Uu,fun _=>⟨Uu,fun _=>⟨_,_,c10 t ht a b,_,_,c11 t ht a b,Uu,fun _=>⟨Uu,fun _=>⟨_,_,_,_,c12 t ht a,_,_,_,_,c13 t ht a,fun _=>⟨fun _=>⟨fun _=>⟨_,Lg,rfl,rfl⟩,fun h=>?_⟩,fun h=>?_⟩,fun h=>?_⟩⟩⟩⟩⟩⟩;all_goals simp at h)
end Go.Proofs.YtkojpnkknehhmaaGreatDoor

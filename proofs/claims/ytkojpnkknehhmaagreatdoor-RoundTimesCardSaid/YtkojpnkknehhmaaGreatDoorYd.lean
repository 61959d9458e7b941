/- Plain: all blocks are checked. The program's sines are those that are compared with the document's; how great they are. Contracts: the document's sine from 0 to 90 degrees is the program's. -/
import Derived.Test.YtkojpnkknehhmaaGreatDoorZf
import Derived.Test.YtkojpnkknehhmaaGreatDoorZg1
import Derived.Test.YtkojpnkknehhmaaGreatDoorZg3
import Derived.Test.YtkojpnkknehhmaaGreatDoorYc
namespace Go.Proofs.YtkojpnkknehhmaaGreatDoor
open Go.IntKind (wrap i64 u64)
open Go.RowKit
namespace SunQ
theorem blocksB:Blocks:=by
 intro j hj;rcases Nat.lt_or_ge j 60 with h | h
 ·exact Sun.all_ok 60 0 Sun.z0 j (by omega) (by omega)
 rcases Nat.lt_or_ge j 120 with h | h
 ·exact Sun.all_ok 60 60 Sun.z60 j (by omega) (by omega)
 rcases Nat.lt_or_ge j 172 with h | h
 ·exact Sun.all_ok 52 120 Sun.z120 j (by omega) (by omega)
 rcases Nat.lt_or_ge j 232 with h | h
 ·exact Sun.all_ok 60 172 Sun.z172 j (by omega) (by omega)
 rcases Nat.lt_or_ge j 292 with h | h
 ·exact Sun.all_ok 60 232 Sun.z232 j (by omega) (by omega)
 rcases Nat.lt_or_ge j 344 with h | h
 ·exact Sun.all_ok 52 292 Sun.z292 j (by omega) (by omega)
 rcases Nat.lt_or_ge j 404 with h | h
 ·exact Sun.all_ok 60 344 Sun.z344 j (by omega) (by omega)
 rcases Nat.lt_or_ge j 464 with h | h
 ·exact Sun.all_ok 60 404 Sun.z404 j (by omega) (by omega)
 rcases Nat.lt_or_ge j 516 with h | h
 ·exact Sun.all_ok 52 464 Sun.z464 j (by omega) (by omega)
 rcases Nat.lt_or_ge j 576 with h | h
 ·exact Sun.all_ok 60 516 Sun.z516 j (by omega) (by omega)
 rcases Nat.lt_or_ge j 636 with h | h
 ·exact Sun.all_ok 60 576 Sun.z576 j (by omega) (by omega)
 rcases Nat.lt_or_ge j 687 with h | h
 ·exact Sun.all_ok 51 636 Sun.z636 j (by omega) (by omega)
 omega
end SunQ
namespace SunQ
theorem U0 (a:Nat):upE (yo a)=⟨loN a,hiN a⟩:=by
 unfold upE loN hiN;split<;>rfl
theorem HU:∀(d a:Nat),a+d<=90000000->loN a<=loN (a+d)/\hiN a<=hiN (a+d)
 |0,_,_=>⟨Int.le_refl _,Int.le_refl _⟩
 |d+1,a,h=>by
  obtain ⟨h1,h2⟩:=HU d a (by omega);obtain ⟨h3,h4,-⟩:=Qd blocksB (a:=a+d) (by omega);exact⟨Int.le_trans h1 h3,Int.le_trans h2 h4⟩
theorem HO {a:Nat} (h:a<=90000000):0<=loN a/\loN a<=hiN a/\hiN a<=100000000:=by
 have h1:=(HU (90000000-a) a (by omega)).2;rw[show a+(90000000-a)=90000000 by omega,z2.2] at h1;have h2:0<=loN a:=Int.natCast_nonneg _;have:=(KQ a).1;omega
theorem N5 (a:Int):-100000000<=(jv a).Lo/\(jv a).Lo<=(jv a).Hi/\(jv a).Hi<=100000000:=by
 have h:=HO (ve a).1;unfold jv;rw[U0];split
 ·unfold qn;dsimp only;rw[zw6 (by omega),zw6 (by omega)];omega
 ·dsimp only;omega
theorem Xo {m:Nat} (h:m<=180000000):jv (m+90000000)=⟨xp m,v7 m⟩:=by
 have ht:qJ (m+90000000)=m+90000000:=by
  unfold qJ;rw[Int.tmod_eq_emod_of_nonneg (a:=(m:Int)+90000000) (by omega),Int.tmod_eq_emod_of_nonneg (by omega)];omega
 have hf:=(ve (m+90000000)).2;rw[ht,Int.tmod_eq_emod_of_nonneg (by omega)] at hf;unfold jv xp v7;rw[ht,U0];by_cases h1:m<90000000
 ·rw[if_neg (by omega),if_pos (by omega),if_pos (by omega)];have:qj (m+90000000)=90000000-m:=by split at hf<;>omega
  rw[this]
 ·have hf:qj (m+90000000)=m-90000000:=by split at hf<;>omega
  rw[if_pos (by omega),hf];have hi:=HO (a:=m-90000000) (by omega);unfold qn;dsimp only;rw[zw6 (by omega),zw6 (by omega),Int.zero_sub,Int.zero_sub];by_cases h2:m=90000000
  ·subst h2;rw[if_pos (by omega),if_pos (by omega),z0.1,z0.2];rfl
  ·rw[if_neg (by omega),if_neg (by omega)]
theorem Kk {a:Nat} (h0:a≠0) (h1:a<90000000) (h2:a≠30000000):dD a 20<=dU a 20/\upE (yo a)=⟨((dU a 20-dD a 20) / 10000000000000000000000000000000000000:Nat),((dU a 20-dD a 20) / 10000000000000000000000000000000000000:Nat)+1⟩:=by
 obtain ⟨k1,k2⟩:=zat (by omega) h1 h2 (Sun.of_all blocksB (by omega) h1 h2);refine⟨k1,?_⟩;have e:yo a=(stN a*100000000 / 85070591730234615865843651857942052864,false):=by
  unfold yo;rw[if_neg h0,if_neg h2,if_neg (by omega)]
 rw[k2,e];rfl
end SunQ
open Go.RowKit SunQ
theorem kN (n:Nat):∃a b c d e f:Int,qE n=.agg [.int .i64 a,.int .i64 b,.int .i64 c,.int .i64 d,.int .i64 e,.int .i64 f]:=⟨_,_,_,_,_,_,rfl⟩
def zbs (Q:yc):Prop :=
 Q (.agg [iN 3,iN 141592653,iN 589793238,iN 462643383,iN 279502884,iN 197169399]) []
theorem zei  (v O) (h:zbs (fun r O'=>r=v/\O'=O)):Sp 236 [] [] v O :=
 zS ⟨[0],[],[],[]⟩ Tryz.func236 Tryz.call236 rfl (by kernel_rfl) h
theorem zch:Sp 236 [] [] (qE piD) []:=zei _ _ ⟨by kernel_rfl,rfl⟩
theorem Mb {a:Nat} (h:a<=90000000):xD a<=1570796326794896619231321691639751442098584700:=by unfold xD piD;omega
theorem JF {a:Nat} (h:a<=90000000):sqD a<=2500000000000000000000000000000000000000000000:=by
 unfold sqD;have h1:=Mb h;have h2:=Nat.mul_le_mul h1 h1;generalize xD a*xD a=z at *;omega
theorem NC {a:Nat} (h:a<=90000000):∀k,dT a k<=1570796326794896619231321691639751442098584700
 |0=>Mb h
 |k+1=>by
  have h1:=NC h k;have h2:=Nat.mul_le_mul h1 (JF h);show dT a k*sqD a / 1000000000000000000000000000000000000000000000*1 / (2*(k+1)*(2*(k+1)+1))<=_;have h3:6<=2*(k+1)*(2*(k+1)+1):=Nat.mul_le_mul (show 2<=2*(k+1) by omega) (show 3<=2*(k+1)+1 by omega);have h4:=Nat.div_le_div_left (a:=dT a k*sqD a / 1000000000000000000000000000000000000000000000*1) h3 (by decide);generalize dT a k*sqD a=z at *;omega
theorem HC {a:Nat} (h:a<=90000000):∀k,dU a k<=(k+1)*1570796326794896619231321691639751442098584700/\dD a k<=(k+1)*1570796326794896619231321691639751442098584700
 |0=>⟨by have:=Mb h;show xD a<=_;omega,Nat.zero_le _⟩
 |k+1=>by
  obtain ⟨h1,h2⟩:=HC h k;have h3:=NC h (k+1);show (if (k+1) % 2=0 then dU a k+dT a (k+1) else dU a k)<=_/\(if (k+1) % 2=0 then dD a k else dD a k+dT a (k+1))<=_;split<;>omega
theorem Gz {k:Nat} (hk:k<20):IntKind.i64.wrap (wrap i64 (2*((k+1:Nat):Int))*wrap i64 (wrap i64 (2*((k+1:Nat):Int))+1))=((2*(k+1)*(2*(k+1)+1):Nat):Int)/\2*(k+1)*(2*(k+1)+1)<=1640:=by
 have h:=Nat.mul_le_mul (show 2*(k+1)<=40 by omega) (show 2*(k+1)+1<=41 by omega);refine⟨?_,h⟩;rw[show (2:Int)*((k+1:Nat):Int)=((2*(k+1):Nat):Int) by omega,uy (by omega),show (((2*(k+1):Nat):Int)+1)=((2*(k+1)+1:Nat):Int) by omega,uy (by omega),Wb (by omega)]
def Da (a:Int) (Q:yc):Prop :=
 ((a == 0)=true->Q (TEncl.zero.av) [])/\((a == 0)=false->((a == 30000000)=true->Q (.agg [iN 50000000,iN 50000000]) [])/\((a == 30000000)=false->((a == 90000000)=true->Q (.agg [iN 100000000,iN 100000000]) [])/\((a == 90000000)=false->∃n6 n7 n8 n9 n10 n11,Sp 236 [] [] (.agg [iN n6,iN n7,iN n8,iN n9,iN n10,iN n11]) []/\∃n13 n14 n15 n16 n17 n18,Sp 235 [AV.agg [iN n6,iN n7,iN n8,iN n9,iN n10,iN n11],iN a,iN 180000000] [] (.agg [iN n13,iN n14,iN n15,iN n16,iN n17,iN n18]) []/\∃n20 n21 n22 n23 n24 n25,Sp 237 [AV.agg [iN n13,iN n14,iN n15,iN n16,iN n17,iN n18],.agg [iN n13,iN n14,iN n15,iN n16,iN n17,iN n18]] [] (.agg [iN n20,iN n21,iN n22,iN n23,iN n24,iN n25]) []/\∃(I27:Nat->List AV->Prop),(∃m29,I27 m29 [iN 1,.agg [iN n13,iN n14,iN n15,iN n16,iN n17,iN n18],TSky.zero.av,.agg [iN n13,iN n14,iN n15,iN n16,iN n17,iN n18]])/\∀(m29:Nat) (n30 n31 n32 n33 n34 n35 n36 n37 n38 n39 n40 n41 n42 n43 n44 n45 n46 n47 n48:Int),I27 m29 [iN n30,.agg [iN n31,iN n32,iN n33,iN n34,iN n35,iN n36],.agg [iN n37,iN n38,iN n39,iN n40,iN n41,iN n42],.agg [iN n43,iN n44,iN n45,iN n46,iN n47,iN n48]]->(decide (n30<=20)=true->∃n52 n53 n54 n55 n56 n57,Sp 237 [AV.agg [iN n43,iN n44,iN n45,iN n46,iN n47,iN n48],.agg [iN n20,iN n21,iN n22,iN n23,iN n24,iN n25]] [] (.agg [iN n52,iN n53,iN n54,iN n55,iN n56,iN n57]) []/\∃n59 n60 n61 n62 n63 n64,Sp 235 [AV.agg [iN n52,iN n53,iN n54,iN n55,iN n56,iN n57],iN 1,iN (wrap i64 (wrap i64 ((2:Int)*n30)*wrap i64 (wrap i64 ((2:Int)*n30)+1)))] [] (.agg [iN n59,iN n60,iN n61,iN n62,iN n63,iN n64]) []/\((n30.tmod (2:Int) == (0:Int))=true->∃n68 n69 n70 n71 n72 n73,Sp 238 [AV.agg [iN n31,iN n32,iN n33,iN n34,iN n35,iN n36],.agg [iN n59,iN n60,iN n61,iN n62,iN n63,iN n64]] [] (.agg [iN n68,iN n69,iN n70,iN n71,iN n72,iN n73]) []/\TEncl.z0=TEncl.z0/\yd [iN n13,iN n14,iN n15,iN n16,iN n17,iN n18]/\yd [iN n20,iN n21,iN n22,iN n23,iN n24,iN n25]/\∃k78,k78<m29/\I27 k78 [iN (wrap i64 (n30+1)),.agg [iN n68,iN n69,iN n70,iN n71,iN n72,iN n73],.agg [iN n37,iN n38,iN n39,iN n40,iN n41,iN n42],.agg [iN n59,iN n60,iN n61,iN n62,iN n63,iN n64]])/\((n30.tmod (2:Int) == (0:Int))=false->∃n68 n69 n70 n71 n72 n73,Sp 238 [AV.agg [iN n37,iN n38,iN n39,iN n40,iN n41,iN n42],.agg [iN n59,iN n60,iN n61,iN n62,iN n63,iN n64]] [] (.agg [iN n68,iN n69,iN n70,iN n71,iN n72,iN n73]) []/\TEncl.z0=TEncl.z0/\yd [iN n13,iN n14,iN n15,iN n16,iN n17,iN n18]/\yd [iN n20,iN n21,iN n22,iN n23,iN n24,iN n25]/\∃k78,k78<m29/\I27 k78 [iN (wrap i64 (n30+1)),.agg [iN n31,iN n32,iN n33,iN n34,iN n35,iN n36],.agg [iN n68,iN n69,iN n70,iN n71,iN n72,iN n73],.agg [iN n59,iN n60,iN n61,iN n62,iN n63,iN n64]]))/\(decide (n30<=20)=false->∃n52 n53 n54 n55 n56 n57,Sp 239 [AV.agg [iN n31,iN n32,iN n33,iN n34,iN n35,iN n36],.agg [iN n37,iN n38,iN n39,iN n40,iN n41,iN n42]] [] (.agg [iN n52,iN n53,iN n54,iN n55,iN n56,iN n57]) []/\Q (.agg [iN (wrap i64 (wrap i64 (n52*100000000)+wrap i64 (n53.tdiv (10:Int)))),iN (wrap i64 (wrap i64 (wrap i64 (n52*100000000)+wrap i64 (n53.tdiv (10:Int)))+1))]) []))))
theorem zea (a:Int) (v O) (h:Da a (fun r O'=>r=v/\O'=O)):Sp 228 [iN a] [] v O :=
 zS ⟨[0,2,3,4,5,6,7,8,9,10,11,12,15,18,31,46],[⟨12,[(8,iN 0)],[],[(5,.agg [iN 0,iN 0,iN 0,iN 0,iN 0,iN 0]),(6,.agg [iN 0,iN 0,iN 0,iN 0,iN 0,iN 0]),(7,.agg [iN 0,iN 0,iN 0,iN 0,iN 0,iN 0])],[],[],[]⟩],[],[]⟩ Tryz.func228 Tryz.call228 rfl (by kernel_rfl) h
theorem zce (a:Nat) (ha:a<=90000000):Sp 228 [.int .i64 a] [] (upE (yo a)).av []:=zea a _ _ (by
 unfold Da;refine⟨fun g=>?_,fun g0=>⟨fun g=>?_,fun g1=>⟨fun g=>?_,fun g2=>?_⟩⟩⟩
 ·have g:a=0:=by have:=eq_of_beq g;omega
  subst g;exact⟨by rw[U0,z0.1,z0.2];rfl,rfl⟩
 ·have g:a=30000000:=by have:=eq_of_beq g;omega
  subst g;exact⟨by rw[U0,z1.1,z1.2];rfl,rfl⟩
 ·have g:a=90000000:=by have:=eq_of_beq g;omega
  subst g;exact⟨by rw[U0,z2.1,z2.2];rfl,rfl⟩
 have g0:a≠0:=fun e=>by rw[e] at g0;cases g0
 have g1:a≠30000000:=fun e=>by rw[e] at g1;cases g1
 have g2:a≠90000000:=fun e=>by rw[e] at g2;cases g2
 obtain ⟨s1,s2⟩:=Kk g0 (by omega) g1;have bx:=Mb ha;have bq:=JF ha;have k1:=zch;have k2:Sp 235 [qE piD,.int .i64 a,.int .i64 ((180000000:Nat):Int)] [] (qE (xD a)) []:=DU piD a 180000000 (by unfold piD L54;decide) (by omega) (by decide) (by decide);have k3:Sp 237 [qE (xD a),qE (xD a)] [] (qE (sqD a)) []:=DV _ _ (by unfold L54;omega) (by unfold L54;omega);obtain ⟨p0,p1,p2,p3,p4,p5,hp⟩:=kN piD;obtain ⟨x0,x1,x2,x3,x4,x5,hx⟩:=kN (xD a);obtain ⟨q0,q1,q2,q3,q4,q5,hq⟩:=kN (sqD a);rw[hp] at k1 k2;rw[hx] at k2 k3;rw[hq] at k3;refine⟨_,_,_,_,_,_,k1,_,_,_,_,_,_,k2,_,_,_,_,_,_,k3,fun m vs=>∃k:Nat,k<=20/\m=20-k/\vs=[.int .i64 ((k+1:Nat):Int),qE (dU a k),qE (dD a k),qE (dT a k)],⟨_,0,by omega,rfl,?_⟩,?_⟩
 ·have hz:qE (dD a 0)=TSky.zero.av:=by rw[show dD a 0=0 from rfl];kernel_rfl
  rw[show dU a 0=xD a from rfl,show dT a 0=xD a from rfl,hx,hz];rfl
 rintro m n a0 a1 a2 a3 a4 a5 b0 b1 b2 b3 b4 b5 c0 c1 c2 c3 c4 c5 ⟨k,hk,rfl,hv⟩;simp only[List.cons.injEq,AV.int.injEq,true_and,and_true] at hv;obtain ⟨rfl,hU,hD,hT⟩:=hv;obtain ⟨d1,d2⟩:=HC ha k;have d3:=NC ha k;refine⟨fun g=>?_,fun g=>?_⟩
 ·have hk:k<20:=by have:=zt_ g;omega
  obtain ⟨v1,v2⟩:=Gz hk;have d4:=NC ha (k+1);have m1:=Nat.mul_le_mul d3 bq;have b45:dT a k*sqD a / 1000000000000000000000000000000000000000000000<L54:=by
   generalize dT a k*sqD a=z at *;unfold L54;omega
  have k4:Sp 237 [qE (dT a k),qE (sqD a)] [] (qE (dT a k*sqD a / 1000000000000000000000000000000000000000000000)) []:=DV _ _ (by unfold L54;omega) (by unfold L54;omega);have k5:Sp 235 [qE (dT a k*sqD a / 1000000000000000000000000000000000000000000000),.int .i64 ((1:Nat):Int),.int .i64 ((2*(k+1)*(2*(k+1)+1):Nat):Int)] [] (qE (dT a (k+1))) []:=DU _ 1 (2*(k+1)*(2*(k+1)+1)) b45 (by decide) (Nat.mul_pos (by omega) (by omega)) (by omega);have k6:=DW (dU a k) (dT a (k+1)) (by unfold L54;omega) (by unfold L54;omega);have k7:=DW (dD a k) (dT a (k+1)) (by unfold L54;omega) (by unfold L54;omega);have eu:dU a (k+1)=if (k+1) % 2=0 then dU a k+dT a (k+1) else dU a k:=rfl
  have ed:dD a (k+1)=if (k+1) % 2=0 then dD a k else dD a k+dT a (k+1):=rfl
  rw[v1];obtain ⟨e0,e1,e2,e3,e4,e5,he⟩:=kN (dT a k*sqD a / 1000000000000000000000000000000000000000000000);obtain ⟨t0,t1,t2,t3,t4,t5,ht⟩:=kN (dT a (k+1));obtain ⟨u0,u1,u2,u3,u4,u5,hu⟩:=kN (dU a k+dT a (k+1));obtain ⟨w0,w1,w2,w3,w4,w5,hw⟩:=kN (dD a k+dT a (k+1));rw[<- hT,hq,he] at k4;rw[he,ht] at k5;rw[<- hU,ht,hu] at k6;rw[<- hD,ht,hw] at k7;refine⟨_,_,_,_,_,_,k4,_,_,_,_,_,_,k5,fun g=>⟨_,_,_,_,_,_,k6,rfl,rfl,rfl,20-(k+1),by omega,k+1,by omega,rfl,?_⟩,fun g=>⟨_,_,_,_,_,_,k7,rfl,rfl,rfl,20-(k+1),by omega,k+1,by omega,rfl,?_⟩⟩
  ·have g:(k+1) % 2=0:=by have:=eq_of_beq g;rw[show (2:Int)=((2:Nat):Int) from rfl,tmN] at this;omega
   rw[yr (by omega),eu,ed,if_pos g,if_pos g,hu,ht,hD]
  ·have g:¬ (k+1) % 2=0:=fun e=>by rw[show (2:Int)=((2:Nat):Int) from rfl,tmN,e] at g;cases g
   rw[yr (by omega),eu,ed,if_neg g,if_neg g,hw,ht,hU]
 ·obtain rfl:k=20:=by have:=zf_ g;omega
  have k8:=zci (dU a 20) (dD a 20) (by unfold L54;omega) s1;rw[<- hU,<- hD] at k8;refine⟨_,_,_,_,_,_,k8,?_,rfl⟩;have d5:dU a 20-dD a 20<=dU a 20:=Nat.sub_le _ _;rw[s2];generalize dU a 20-dD a 20=s at *;have e1:IntKind.i64.wrap (wrap i64 (((s / 1000000000 / 1000000000 / 1000000000 / 1000000000 / 1000000000:Nat):Int)*100000000)+wrap i64 (((s / 1000000000 / 1000000000 / 1000000000 / 1000000000 % 1000000000:Nat):Int).tdiv 10))=((s / 10000000000000000000000000000000000000:Nat):Int):=by
   rw[show (10:Int)=((10:Nat):Int) from rfl,tdN,uy (by omega),zw6 (n:=_*_) (by omega),zw6 (by omega)];omega
  rw[e1,zw6 (by omega)];rfl)
end Go.Proofs.YtkojpnkknehhmaaGreatDoor

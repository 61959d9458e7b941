/- Contracts: the document's inverse of the cosine is the program's. Contracts: the document's sun is the program's: small functions. -/
import Derived.Test.YtkojpnkknehhmaaGreatDoorYf
namespace Go.Proofs.YtkojpnkknehhmaaGreatDoor
open Go.IntKind (wrap i64 u64)
open Go.RowKit SunQ
def Sz (x:Int):Nat:=kD (fun a=>decide (xp a>=x)) 180000001 0 180000001
theorem L2 (f:Nat->Bool) (k i j:Nat):kD f (k+1) i j=if j-i>1 then (if f ((i+j) / 2) then kD f k ((i+j) / 2) j else kD f k i ((i+j) / 2)) else i:=rfl
theorem L0 (f:Nat->Bool) (k i j:Nat) (h:¬ j-i>1):kD f k i j=i:=by
 cases k with
 |zero=>rfl
 |succ k=>rw[L2,if_neg h]
def LW (x:Int):TEncl:=⟨Sz x,if v7 (Sz x)<=x then Sz x else Sz x+1⟩
def FR (x:Int) (Q:yc):Prop :=
 ∃(I0:Nat->List AV->Prop),(∃m2,I0 m2 [iN 0,iN 180000001])/\∀(m2:Nat) (n3 n4:Int),I0 m2 [iN n3,iN n4]->(decide (wrap i64 (n4-n3)>1)=true->∃n8 n9,Sp 217 [iN (wrap i64 (wrap i64 ((wrap i64 (n3+n4)).tdiv (2:Int))+90000000))] [] (.agg [iN n8,iN n9]) []/\(decide (n8>=x)=true->TEncl.z0=TEncl.z0/\∃k14,k14<m2/\I0 k14 [iN (wrap i64 ((wrap i64 (n3+n4)).tdiv (2:Int))),iN n4])/\(decide (n8>=x)=false->TEncl.z0=TEncl.z0/\∃k14,k14<m2/\I0 k14 [iN n3,iN (wrap i64 ((wrap i64 (n3+n4)).tdiv (2:Int)))]))/\(decide (wrap i64 (n4-n3)>1)=false->∃n8 n9,Sp 217 [iN (wrap i64 (n3+90000000))] [] (.agg [iN n8,iN n9]) []/\(decide (n9<=x)=true->Q (.agg [iN n3,iN n3]) [])/\(decide (n9<=x)=false->Q (.agg [iN n3,iN (wrap i64 (n3+1))]) []))
theorem zdG (x:Int) (v O) (h:FR x (fun r O'=>r=v/\O'=O)):Sp 194 [iN x] [] v O :=
 zS ⟨[0,2,3,4,5,9,19,27],[⟨2,[(3,iN 0),(4,iN 0)],[],[],[],[],[]⟩],[],[]⟩ Tryz.func194 Tryz.call194 rfl (by kernel_rfl) h
theorem DM (x:Int):Sp 194 [.int .i64 x] [] (LW x).av []:=zdG x _ _ (by
 unfold FR;refine⟨fun m vs=>∃i j:Nat,i<j/\j<=180000001/\j-i<=m+1/\vs=[.int .i64 i,.int .i64 j]/\kD (fun a=>decide (xp a>=x)) m i j=Sz x,⟨180000001,0,180000001,by omega,by omega,by omega,rfl,rfl⟩,?_⟩;rintro m _ _ ⟨i,j,h1,h2,h3,hv,hs⟩;cases hv;rw[zw6 (n:=(j:Int)-i) (by omega)];refine⟨fun g=>?_,fun g=>?_⟩
 ·have g:=zt_ g;obtain ⟨k,rfl⟩:∃k,m=k+1:=⟨m-1,by omega⟩;rw[L2,if_pos (by omega)] at hs;have hm:IntKind.i64.wrap ((wrap i64 ((i:Int)+j)).tdiv 2)=(((i+j) / 2:Nat):Int):=by
   rw[YJ (by omega),show (2:Int)=((2:Nat):Int) from rfl,tdN,uy (by omega)]
  rw[hm,zw6 (n:=_+90000000) (by omega)];have hk:=Ig (((i+j) / 2:Nat)+90000000);rw[Xo (by omega)] at hk;refine⟨_,_,hk,fun g2=>⟨rfl,k,by omega,_,_,by omega,by omega,by omega,rfl,?_⟩,fun g2=>⟨rfl,k,by omega,_,_,by omega,by omega,by omega,rfl,?_⟩⟩
  ·rw[if_pos g2] at hs;exact hs
  ·have g2:decide (xp ((i+j) / 2)>=x)=false:=g2;rw[if_neg (by rw[g2];simp)] at hs;exact hs
 ·have g:=zf_ g;rw[L0 _ _ _ _ (by omega)] at hs;rw[zw6 (n:=(i:Int)+90000000) (by omega)];have hk:=Ig ((i:Nat)+90000000);rw[Xo (by omega)] at hk;unfold LW;rw[<- hs];refine⟨_,_,hk,fun g2=>⟨?_,rfl⟩,fun g2=>⟨?_,rfl⟩⟩
  ·have g2:v7 i<=x:=zt_ g2;rw[if_pos g2];rfl
  ·have g2:¬ v7 i<=x:=zf_ g2;rw[if_neg g2,yr (by omega)];rfl)
theorem wT {f g:Nat->Bool}:∀(k i j:Nat),(∀a,a<j->f a=g a)->yw f k i j=yw g k i j
 |0,_,_,_=>rfl
 |k+1,i,j,h=>by
  rw[wY,wY];split
  ·rw[h _ (by omega),wT k i _ fun a ha=>h a (by omega),wT k _ j h]
  ·rfl
theorem LX {x:TEncl} (h1:x.Lo<=x.Hi) (h2:-100000000<=x.Lo) (h3:x.Hi<=100000000):Wz x=⟨(LW x.Hi).Lo,(LW x.Lo).Hi⟩:=by
 have a1:=(Dv SunQ.blocksB (x:=x.Hi) (by omega) h3 180000001 (by omega)).1;have a2:=(Dv SunQ.blocksB (x:=x.Lo) h2 (by omega) 180000001 (by omega)).2;unfold Wz LW;have e1:yw (Uz x) 180000001 0 180000001=Sz x.Hi+1:=by
  rw[wT _ _ _ (g:=fun a=>decide (xp a<x.Hi)) fun a ha=>by unfold Uz;rw[Xo (by omega)]];exact a1
 have e2:yw (Yl x) 180000000 0 180000000=if v7 (Sz x.Lo)<=x.Lo then Sz x.Lo else Sz x.Lo+1:=by
  rw[wT _ _ _ (g:=fun a=>decide (v7 a<=x.Lo)) fun a ha=>by unfold Yl;rw[Xo (by omega)]];exact a2
 rw[e1,e2];dsimp only;congr 1
 ·omega
 ·split<;>omega
def FF (x:TEncl) (Q:yc):Prop :=
 (decide (x.Lo>x.Hi)=true->Q (.tup [TEncl.zero.av,iN 7]) [])/\(decide (x.Lo>x.Hi)=false->(decide (x.Lo<(-100000000:Int))=true->Q (.tup [TEncl.zero.av,iN 7]) [])/\(decide (x.Lo<(-100000000:Int))=false->(decide (x.Hi>100000000)=true->Q (.tup [TEncl.zero.av,iN 7]) [])/\(decide (x.Hi>100000000)=false->∃n6 n7,Sp 194 [iN x.Hi] [] (.agg [iN n6,iN n7]) []/\∃n9 n10,Sp 194 [iN x.Lo] [] (.agg [iN n9,iN n10]) []/\Q (.tup [AV.agg [iN n6,iN n10],iN 0]) [])))
theorem zdb (x:TEncl) (v O) (h:FF x (fun r O'=>r=v/\O'=O)):Sp 162 [x.av] [] v O :=
 zS ⟨[0,1,2,3,18],[],[],[]⟩ Tryz.func162 Tryz.call162 rfl (by kernel_rfl) h
theorem DE (x:TEncl):Sp 162 [x.av] [] (.tup [(yX x).1.av,.int .i64 (yX x).2]) []:=zdb x _ _ (by
 unfold FF yX;have hw:qc x 100000000=(decide (x.Lo>x.Hi) || (decide (x.Lo < -100000000) || decide (x.Hi>100000000))):=rfl;rw[hw];refine⟨fun g=>⟨by rw[g];rfl,rfl⟩,fun g=>⟨fun g2=>⟨by rw[g,g2];rfl,rfl⟩,fun g2=>⟨fun g3=>⟨by rw[g,g2,g3];rfl,rfl⟩,fun g3=>?_⟩⟩⟩;rw[g,g2,g3];refine⟨_,_,DM x.Hi,_,_,DM x.Lo,?_,rfl⟩;rw[if_neg (by simp),LX (by have:=zf_ g;omega) (by have:=zf_ g2;omega) (by have:=zf_ g3;omega)];rfl)
def F2 (x:TEncl) (Q:yc):Prop :=
 ∃n0 n1 n2,Sp 162 [x.av] [] (.tup [AV.agg [iN n0,iN n1],iN n2]) []/\((n2 != 0)=true->Q (.tup [TEncl.zero.av,iN n2]) [])/\((n2 != 0)=false->Q (.tup [AV.agg [iN (wrap i64 ((90000000:Int)-n1)),iN (wrap i64 ((90000000:Int)-n0))],iN 0]) [])
theorem zdZ (x:TEncl) (v O) (h:F2 x (fun r O'=>r=v/\O'=O)):Sp 215 [x.av] [] v O :=
 zS ⟨[0,1,2,3,4,5,12],[],[],[]⟩ Tryz.func215 Tryz.call215 rfl (by kernel_rfl) h
theorem zcb (x:TEncl):Sp 215 [x.av] [] (.tup [(xx x).1.av,.int .i64 (xx x).2]) []:=zdZ x _ _ (by
 unfold F2 xx;refine⟨_,_,_,DE x,fun h=>⟨?_,rfl⟩,fun h=>⟨?_,rfl⟩⟩
 ·have h:(yX x).2≠0:=by simpa using h
  rw[if_pos h];rfl
 ·have h:(yX x).2=0:=by simpa using h
  rw[if_neg (by simp[h])];rfl)
open Go.RowKit SunQ
theorem wq {a b:Int} (h:a % 18446744073709551616=b % 18446744073709551616):IntKind.i64.wrap a=wrap i64 b:=by rw[KM,KM,h]
theorem wx (a:Int):∃k,wrap i64 a=a+18446744073709551616*k:=by
 rw[KM];have:=Int.emod_add_mul_ediv a 18446744073709551616;split
 ·exact⟨-(a / 18446744073709551616)-1,by omega⟩
 ·exact⟨-(a / 18446744073709551616),by omega⟩
theorem win (a:Int):-9223372036854775808<=wrap i64 a/\IntKind.i64.wrap a<9223372036854775808:=by
 rw[KM];split<;>omega
theorem Fc (a:Int):IntKind.i64.wrap (0-wrap i64 a)=wrap i64 (0-a):=by
 obtain ⟨k,e⟩:=wx a;rw[e];exact wq (by omega)
theorem Ma (k h:Int):IntKind.i64.wrap (wrap i64 (0-k)*h)=wrap i64 (0-k*h):=by
 obtain ⟨q,e⟩:=wx (0-k);rw[e,Int.add_mul,Int.sub_mul,Int.zero_mul,Int.mul_assoc];generalize k*h=a;generalize q*h=b;exact wq (by omega)
def inE (x:TEncl):Prop:=(-9223372036854775808<=x.Lo/\x.Lo<9223372036854775808) /\ -9223372036854775808<=x.Hi/\x.Hi<9223372036854775808
theorem IK (x:TEncl) (n:Int):inE (jN x n):=⟨win _,win _⟩
def FG (n d:Int) (Q:yc):Prop :=
 d≠0/\(decide (n<0)=true->d≠0/\((n.tmod d != 0)=true->Q (iN (wrap i64 (wrap i64 (n.tdiv d)-1))) [])/\((n.tmod d != 0)=false->Q (iN (wrap i64 (n.tdiv d))) []))/\(decide (n<0)=false->Q (iN (wrap i64 (n.tdiv d))) [])
theorem zde (n d:Int) (v O) (h:FG n d (fun r O'=>r=v/\O'=O)):Sp 165 [iN n,iN d] [] v O :=
 zS ⟨[0,1,4,5,16],[],[],[]⟩ Tryz.func165 Tryz.call165 rfl (by kernel_rfl) h
theorem Qy (n d:Int) (hd:0<d):Sp 165 [.int .i64 n,.int .i64 d] [] (.int .i64 (qN n d)) []:=zde n d _ _ (by
 unfold FG;rw[N3 hd];have d0:d≠0:=by omega
 refine⟨d0,fun g=>⟨d0,fun g2=>⟨?_,rfl⟩,fun g2=>⟨?_,rfl⟩⟩,fun g=>⟨?_,rfl⟩⟩
 ·rw[if_pos (zt_ g),if_pos (by simpa using g2)]
 ·rw[if_pos (zt_ g),if_neg (by simpa using g2)]
 ·rw[if_neg (zf_ g)])
def zaX (n d:Int) (Q:yc):Prop :=
 ∃n0,Sp 165 [iN (wrap i64 ((0:Int)-n)),iN d] [] (iN n0) []/\Q (iN (wrap i64 ((0:Int)-n0))) []
theorem zdf (n d:Int) (v O) (h:zaX n d (fun r O'=>r=v/\O'=O)):Sp 166 [iN n,iN d] [] v O :=
 zS ⟨[0,1,4],[],[],[]⟩ Tryz.func166 Tryz.call166 rfl (by kernel_rfl) h
theorem Gc (n d:Int) (hd:0<d):Sp 166 [.int .i64 n,.int .i64 d] [] (.int .i64 (wrap i64 (0-qN (wrap i64 (0-n)) d))) []:=zdf n d _ _ ⟨_,Qy _ _ hd,rfl,rfl⟩
theorem Jr (x:TEncl) (n d:Int):IntKind.i64.wrap (0-qN (wrap i64 (0-wrap i64 (n*x.Hi))) d)=(yG x n d).Hi:=by
 unfold yG;dsimp only;rw[Fc,Ma]
theorem Nv (x:TEncl) (n d:Int) (hd:0<d):Sp 166 [.int .i64 (wrap i64 (n*x.Hi)),.int .i64 d] [] (.int .i64 (yG x n d).Hi) []:=by
 rw[<- Jr];exact Gc _ _ hd
def za7 (k:Int) (s:TEncl) (Q:yc):Prop :=
 ∃n0,Sp 165 [iN (wrap i64 (k*s.Lo)),iN 100000000] [] (iN n0) []/\∃n2,Sp 166 [iN (wrap i64 (k*s.Hi)),iN 100000000] [] (iN n2) []/\Q (.agg [iN n0,iN n2]) []
theorem zdw (k:Int) (s:TEncl) (v O) (h:za7 k s (fun r O'=>r=v/\O'=O)):Sp 184 [iN k,s.av] [] v O :=
 zS ⟨[0,1,3,4],[],[],[]⟩ Tryz.func184 Tryz.call184 rfl (by kernel_rfl) h
theorem Ia (k:Int) (s:TEncl):Sp 184 [.int .i64 k,s.av] [] (yG s k 100000000).av []:=zdw k s _ _ ⟨_,Qy _ _ (by decide),_,Nv s k _ (by decide),rfl,rfl⟩
def za6 (x y:TEncl) (Q:yc):Prop :=
 Q (.agg [iN (wrap i64 (x.Lo+y.Lo)),iN (wrap i64 (x.Hi+y.Hi))]) []
theorem zdv (x y:TEncl) (v O) (h:za6 x y (fun r O'=>r=v/\O'=O)):Sp 183 [x.av,y.av] [] v O :=
 zS ⟨[0,1,2,3,4],[],[],[]⟩ Tryz.func183 Tryz.call183 rfl (by kernel_rfl) h
theorem DI (x y:TEncl):Sp 183 [x.av,y.av] [] (q9 x y).av []:=zdv x y _ _ ⟨rfl,rfl⟩
def dfE (x y:TEncl):TEncl:=⟨wrap i64 (x.Lo-y.Hi),wrap i64 (x.Hi-y.Lo)⟩
def zaV (x y:TEncl) (Q:yc):Prop :=
 Q (.agg [iN (wrap i64 (x.Lo-y.Hi)),iN (wrap i64 (x.Hi-y.Lo))]) []
theorem zdc (x y:TEncl) (v O) (h:zaV x y (fun r O'=>r=v/\O'=O)):Sp 163 [x.av,y.av] [] v O :=
 zS ⟨[0,1,2,3,4],[],[],[]⟩ Tryz.func163 Tryz.call163 rfl (by kernel_rfl) h
theorem Ml (x y:TEncl):Sp 163 [x.av,y.av] [] (dfE x y).av []:=zdc x y _ _ ⟨rfl,rfl⟩
def JU (x:TEncl) (n:Int):TEncl:=⟨wrap i64 (x.Lo-n),wrap i64 (x.Hi+n)⟩
def zbb (x:TEncl) (n:Int) (Q:yc):Prop :=
 Q (.agg [iN (wrap i64 (x.Lo-n)),iN (wrap i64 (x.Hi+n))]) []
theorem zdA (x:TEncl) (n:Int) (v O) (h:zbb x n (fun r O'=>r=v/\O'=O)):Sp 188 [x.av,iN n] [] v O :=
 zS ⟨[0,1,2,4],[],[],[]⟩ Tryz.func188 Tryz.call188 rfl (by kernel_rfl) h
theorem DK (x:TEncl) (n:Int):Sp 188 [x.av,.int .i64 n] [] (JU x n).av []:=zdA x n _ _ ⟨rfl,rfl⟩
def zba (x:TEncl) (Q:yc):Prop :=
 ∃n0,Sp 165 [iN x.Lo,iN 360000000] [] (iN n0) []/\Q (.agg [iN (wrap i64 (x.Lo-wrap i64 ((360000000:Int)*n0))),iN (wrap i64 (x.Hi-wrap i64 ((360000000:Int)*n0)))]) []
theorem zdz (x:TEncl) (v O) (h:zba x (fun r O'=>r=v/\O'=O)):Sp 187 [x.av] [] v O :=
 zS ⟨[0,1,2,3],[],[],[]⟩ Tryz.func187 Tryz.call187 rfl (by kernel_rfl) h
theorem DJ (x:TEncl):Sp 187 [x.av] [] (Xv x).av []:=zdz x _ _ (by
 refine⟨_,Qy _ _ (by decide),?_,rfl⟩;generalize hq:qN x.Lo 360000000=q;have e:∀z:Int,wrap i64 (z-wrap i64 (360000000*q))=wrap i64 (z+wrap i64 (-360000000*q)):=fun z=>by
  obtain ⟨k,e1⟩:=wx (360000000*q);obtain ⟨j,e2⟩:=wx (-360000000*q);rw[e1,e2];exact wq (by omega)
 rw[e,e];unfold Xv jN;rw[hq];rfl)
theorem Px (z:Int):qN z 1=wrap i64 z:=by
 unfold qN;rw[Int.tmod_one,Int.tdiv_one,if_neg (by decide)]
theorem Sd (x:TEncl) (n:Int):yG x n 1=⟨wrap i64 (n*x.Lo),wrap i64 (n*x.Hi)⟩:=by
 unfold yG;rw[Px,Px,Ma];have h:=win (n*x.Lo);rw[zw6 (n:=wrap i64 (n*x.Lo)) h];congr 1;generalize n*x.Hi=a;obtain ⟨k,e⟩:=wx (wrap i64 (0-a));obtain ⟨j,e2⟩:=wx (0-a);rw[e,e2];exact wq (by omega)
theorem Js {x:TEncl} (h:inE x):yG x 1 1=x:=by
 rw[Sd,Int.one_mul,Int.one_mul,zw6 h.1,zw6 h.2]
def za9 (x:TEncl) (n:Int) (Q:yc):Prop :=
 Q (.agg [iN (wrap i64 (n*x.Lo)),iN (wrap i64 (n*x.Hi))]) []
theorem zdy (x:TEncl) (n:Int) (v O) (h:za9 x n (fun r O'=>r=v/\O'=O)):Sp 186 [x.av,iN n] [] v O :=
 zS ⟨[0,1,2,4],[],[],[]⟩ Tryz.func186 Tryz.call186 rfl (by kernel_rfl) h
theorem Ge (x:TEncl) (n:Int):Sp 186 [x.av,.int .i64 n] [] (yG x n 1).av []:=zdy x n _ _ ⟨by rw[Sd];rfl,rfl⟩
def za8 (x:TEncl) (Q:yc):Prop :=
 ∃n0 n1 n2,Sp 210 [x.av] [] (.tup [AV.agg [iN n0,iN n1],iN n2]) []/\Q (.agg [iN n0,iN n1]) []
theorem zdx (x:TEncl) (v O) (h:za8 x (fun r O'=>r=v/\O'=O)):Sp 185 [x.av] [] v O :=
 zS ⟨[0,1,2,3],[],[],[]⟩ Tryz.func185 Tryz.call185 rfl (by kernel_rfl) h
theorem QC (x:TEncl):Sp 185 [x.av] [] (yW x 0).1.av []:=zdx x _ _ ⟨_,_,_,zb9 x,rfl,rfl⟩
def zbc (x:TEncl) (Q:yc):Prop :=
 ∃n0 n1 n2,Sp 214 [x.av] [] (.tup [AV.agg [iN n0,iN n1],iN n2]) []/\Q (.agg [iN n0,iN n1]) []
theorem zdC (x:TEncl) (v O) (h:zbc x (fun r O'=>r=v/\O'=O)):Sp 190 [x.av] [] v O :=
 zS ⟨[0,1,2,3],[],[],[]⟩ Tryz.func190 Tryz.call190 rfl (by kernel_rfl) h
theorem DL (x:TEncl):Sp 190 [x.av] [] (yW x 90000000).1.av []:=zdC x _ _ ⟨_,_,_,zca x,rfl,rfl⟩
def za5 (start speed:Int) (w:TEncl) (Q:yc):Prop :=
 ∃n0,Sp 165 [iN (wrap i64 (speed*w.Lo)),iN 8640000] [] (iN n0) []/\∃n2,Sp 166 [iN (wrap i64 (speed*w.Hi)),iN 8640000] [] (iN n2) []/\∃n4 n5,Sp 187 [AV.agg [iN (wrap i64 (start+n0)),iN (wrap i64 (start+n2))]] [] (.agg [iN n4,iN n5]) []/\Q (.agg [iN n4,iN n5]) []
theorem zdu (start speed:Int) (w:TEncl) (v O) (h:za5 start speed w (fun r O'=>r=v/\O'=O)):Sp 182 [iN start,iN speed,w.av] [] v O :=
 zS ⟨[0,1,2,5,6],[],[],[]⟩ Tryz.func182 Tryz.call182 rfl (by kernel_rfl) h
theorem DH (start speed:Int) (w:TEncl):Sp 182 [.int .i64 start,.int .i64 speed,w.av] [] (Xv (jN (yG w speed 8640000) start)).av []:=zdu start speed w _ _ (by
 have k:=DJ (jN (yG w speed 8640000) start);unfold jN at k;rw[Int.add_comm _ start,Int.add_comm _ start] at k;exact⟨_,Qy _ _ (by decide),_,Nv w speed _ (by decide),_,_,k,by unfold jN;rw[Int.add_comm _ start,Int.add_comm _ start];rfl,rfl⟩)
def zbd (s:TEncl) (Q:yc):Prop :=
 ∃n0 n1 n2,Sp 215 [s.av] [] (.tup [AV.agg [iN n0,iN n1],iN n2]) []/\∃n4 n5,Sp 190 [AV.agg [iN n0,iN n1]] [] (.agg [iN n4,iN n5]) []/\Q (.agg [iN n4,iN n5]) []
theorem zdD (s:TEncl) (v O) (h:zbd s (fun r O'=>r=v/\O'=O)):Sp 191 [s.av] [] v O :=
 zS ⟨[0,1,2,3],[],[],[]⟩ Tryz.func191 Tryz.call191 rfl (by kernel_rfl) h
theorem zbZ (s:TEncl):Sp 191 [s.av] [] (yW (xx s).1 90000000).1.av []:=zdD s _ _ ⟨_,_,_,zcb s,_,_,DL _,rfl,rfl⟩
def zaW (n:Int) (Q:yc):Prop :=
 Q (.agg [iN n,iN n]) []
theorem zdd (n:Int) (v O) (h:zaW n (fun r O'=>r=v/\O'=O)):Sp 164 [iN n] [] v O :=
 zS ⟨[0,2],[],[],[]⟩ Tryz.func164 Tryz.call164 rfl (by kernel_rfl) h
theorem J7 (n:Int):Sp 164 [.int .i64 n] [] (TEncl.mk n n).av []:=zdd n _ _ ⟨rfl,rfl⟩
theorem LO (x y:TEncl):q9 (q9 ⟨0,0⟩ x) y=q9 x y:=by
 unfold q9;dsimp only;obtain ⟨a,e1⟩:=wx (0+x.Lo);obtain ⟨b,e2⟩:=wx (0+x.Hi);rw[e1,e2];congr 1<;>exact wq (by omega)
theorem Hm (x:TEncl):inE (Xv x):=IK _ _
theorem Mp (w:TEncl):q9 (yG (yW (kZ w) 0).1 1915000 100000000) (yG (yW (yG (kZ w) 2 1) 0).1 20000 100000000)=wb w:=by
 unfold wb wv xM;rw[Js (x:=kZ w) (Hm _)];exact(LO _ _).symm
theorem Kq (w:TEncl):Xv (JU (q9 (Tn w) (wb w)) 10000)=xq w:=by
 unfold xq wv;congr 1;show _=q9 (q9 (q9 ⟨0,0⟩ _) _) kR;rw[LO];rfl
theorem Lp (w:TEncl):(⟨wrap i64 (23439000+qN (wrap i64 (-36*w.Hi)) 8640000),wrap i64 (23439000+wrap i64 (0-qN (wrap i64 (0-wrap i64 (-36*w.Lo))) 8640000))⟩:TEncl)=Xt w:=by
 unfold Xt jN qn yG;dsimp only;rw[show wrap i64 (0-36) = -36 from rfl,Fc,show (0:Int) - -36*w.Lo=36*w.Lo by omega];generalize qN (wrap i64 (36*w.Lo)) 8640000=a;generalize qN (wrap i64 (-36*w.Hi)) 8640000=b;obtain ⟨k1,e1⟩:=wx (0-wrap i64 (0-b));obtain ⟨k2,e2⟩:=wx (0-b);obtain ⟨k3,e3⟩:=wx (0-a);rw[e1,e2,e3];congr 1<;>exact wq (by omega)
theorem Ks (a b c:TEncl):JU (dfE (dfE a b) c) 10000=wv [a,qn b,qn c,kR]:=by
 unfold wv;show _=q9 (q9 (q9 (q9 ⟨0,0⟩ a) _) _) kR;rw[LO];unfold JU dfE q9 qn kR;dsimp only;obtain ⟨k1,e1⟩:=wx (a.Lo-b.Hi);obtain ⟨k2,e2⟩:=wx (a.Hi-b.Lo);obtain ⟨k3,e3⟩:=wx (0-b.Hi);obtain ⟨k4,e4⟩:=wx (0-b.Lo);obtain ⟨k5,e5⟩:=wx (0-c.Hi);obtain ⟨k6,e6⟩:=wx (0-c.Lo);rw[e1,e2,e3,e4,e5,e6];obtain ⟨j1,f1⟩:=wx (a.Lo-b.Hi+18446744073709551616*k1-c.Hi);obtain ⟨j2,f2⟩:=wx (a.Hi-b.Lo+18446744073709551616*k2-c.Lo);obtain ⟨j3,f3⟩:=wx (a.Lo+(0-b.Hi+18446744073709551616*k3));obtain ⟨j4,f4⟩:=wx (a.Hi+(0-b.Lo+18446744073709551616*k4));rw[f1,f2,f3,f4];obtain ⟨l1,g1⟩:=wx (a.Lo+(0-b.Hi+18446744073709551616*k3)+18446744073709551616*j3+(0-c.Hi+18446744073709551616*k5));obtain ⟨l2,g2⟩:=wx (a.Hi+(0-b.Lo+18446744073709551616*k4)+18446744073709551616*j4+(0-c.Lo+18446744073709551616*k6));rw[g1,g2];congr 1<;>exact wq (by omega)
def FD (w:TEncl) (Q:yc):Prop :=
 ∃n0 n1,Sp 182 [iN 357528000,iN 98560028,w.av] [] (.agg [iN n0,iN n1]) []/\∃n3 n4,Sp 182 [iN 280459000,iN 98564736,w.av] [] (.agg [iN n3,iN n4]) []/\∃n6 n7,Sp 185 [AV.agg [iN n0,iN n1]] [] (.agg [iN n6,iN n7]) []/\∃n9 n10,Sp 184 [iN 1915000,.agg [iN n6,iN n7]] [] (.agg [iN n9,iN n10]) []/\∃n12 n13,Sp 186 [AV.agg [iN n0,iN n1],iN 2] [] (.agg [iN n12,iN n13]) []/\∃n15 n16,Sp 185 [AV.agg [iN n12,iN n13]] [] (.agg [iN n15,iN n16]) []/\∃n18 n19,Sp 184 [iN 20000,.agg [iN n15,iN n16]] [] (.agg [iN n18,iN n19]) []/\∃n21 n22,Sp 183 [AV.agg [iN n9,iN n10],.agg [iN n18,iN n19]] [] (.agg [iN n21,iN n22]) []/\∃n24 n25,Sp 183 [AV.agg [iN n3,iN n4],.agg [iN n21,iN n22]] [] (.agg [iN n24,iN n25]) []/\∃n27 n28,Sp 188 [AV.agg [iN n24,iN n25],iN 10000] [] (.agg [iN n27,iN n28]) []/\∃n30 n31,Sp 187 [AV.agg [iN n27,iN n28]] [] (.agg [iN n30,iN n31]) []/\∃n33,Sp 165 [iN (wrap i64 ((-36:Int)*w.Hi)),iN 8640000] [] (iN n33) []/\∃n35,Sp 166 [iN (wrap i64 ((-36:Int)*w.Lo)),iN 8640000] [] (iN n35) []/\∃n37 n38,Sp 185 [AV.agg [iN (wrap i64 ((23439000:Int)+n33)),iN (wrap i64 ((23439000:Int)+n35))]] [] (.agg [iN n37,iN n38]) []/\∃n40 n41,Sp 185 [AV.agg [iN n30,iN n31]] [] (.agg [iN n40,iN n41]) []/\∃n43 n44 n45,Sp 189 [AV.agg [iN n37,iN n38],.agg [iN n40,iN n41]] [] (.tup [AV.agg [iN n43,iN n44],iN n45]) []/\∃n47 n48,Sp 186 [AV.agg [iN n30,iN n31],iN 2] [] (.agg [iN n47,iN n48]) []/\∃n50 n51,Sp 185 [AV.agg [iN n47,iN n48]] [] (.agg [iN n50,iN n51]) []/\∃n53 n54,Sp 184 [iN 2466000,.agg [iN n50,iN n51]] [] (.agg [iN n53,iN n54]) []/\∃n56 n57,Sp 163 [AV.agg [iN n53,iN n54],.agg [iN n21,iN n22]] [] (.agg [iN n56,iN n57]) []/\∃n59 n60,Sp 186 [AV.agg [iN n30,iN n31],iN 4] [] (.agg [iN n59,iN n60]) []/\∃n62 n63,Sp 185 [AV.agg [iN n59,iN n60]] [] (.agg [iN n62,iN n63]) []/\∃n65 n66,Sp 184 [iN 53000,.agg [iN n62,iN n63]] [] (.agg [iN n65,iN n66]) []/\∃n68 n69,Sp 163 [AV.agg [iN n56,iN n57],.agg [iN n65,iN n66]] [] (.agg [iN n68,iN n69]) []/\∃n71 n72,Sp 188 [AV.agg [iN n68,iN n69],iN 10000] [] (.agg [iN n71,iN n72]) []/\Q (.tup [AV.agg [iN n43,iN n44],.agg [iN n71,iN n72]]) []
theorem zc9 (w:TEncl) (v O) (h:FD w (fun r O'=>r=v/\O'=O)):Sp 160 [w.av] [] v O :=
 zS ⟨[0,1,2,3,4,5,6,7,8,9,11],[],[],[]⟩ Tryz.func160 Tryz.call160 rfl (by kernel_rfl) h
theorem zbS (w:TEncl):Sp 160 [w.av] [] (.tup [(jm w).sin.av,(jm w).equation.av]) []:=zc9 w _ _ (by
 unfold FD;have kc:=DI (yG (yW (kZ w) 0).1 1915000 100000000) (yG (yW (yG (kZ w) 2 1) 0).1 20000 100000000);rw[Mp] at kc;have kl:=DJ (JU (q9 (Tn w) (wb w)) 10000);rw[Kq] at kl;have kt:=QC ⟨wrap i64 (23439000+qN (wrap i64 (-36*w.Hi)) 8640000),wrap i64 (23439000+wrap i64 (0-qN (wrap i64 (0-wrap i64 (-36*w.Lo))) 8640000))⟩;have ks:Sp 189 [(yW (Xt w) 0).1.av,(yW (xq w) 0).1.av] [] (.tup [(jm w).sin.av,.int .i64 (jE (yW (Xt w) 0).1 (yW (xq w) 0).1).2]) []:=Gf _ _;have ke:=DK (dfE (dfE (yG (yW (yG (xq w) 2 1) 0).1 2466000 100000000) (wb w)) (yG (yW (yG (xq w) 4 1) 0).1 53000 100000000)) 10000;rw[Ks] at ke;have ha:Sp 182 [.int .i64 357528000,.int .i64 98560028,w.av] [] (kZ w).av []:=DH _ _ _;have hl:Sp 182 [.int .i64 280459000,.int .i64 98564736,w.av] [] (Tn w).av []:=DH _ _ _;refine⟨_,_,ha,_,_,hl,_,_,QC (kZ w),_,_,Ia _ _,_,_,Ge (kZ w) 2,_,_,QC _,_,_,Ia _ _,_,_,kc,_,_,DI (Tn w) (wb w),_,_,DK _ _,_,_,kl,?_⟩;refine⟨_,Qy _ _ (by decide),_,Gc _ _ (by decide),_,_,kt,?_⟩;rw[Lp];exact⟨_,_,QC (xq w),_,_,_,ks,_,_,Ge (xq w) 2,_,_,QC _,_,_,Ia _ _,_,_,Ml _ (wb w),_,_,Ge (xq w) 4,_,_,QC _,_,_,Ia _ _,_,_,Ml _ _,_,_,ke,rfl,rfl⟩)
end Go.Proofs.YtkojpnkknehhmaaGreatDoor

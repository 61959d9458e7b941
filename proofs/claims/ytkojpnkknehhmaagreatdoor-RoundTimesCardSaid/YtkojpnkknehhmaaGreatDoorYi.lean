/- Contracts: when the document's sun sets and rises: as the program's. -/
import Derived.Test.YtkojpnkknehhmaaGreatDoorYh
namespace Go.Proofs.YtkojpnkknehhmaaGreatDoor
open Go.IntKind (wrap i64 u64)
open Go.RowKit SunQ
def R88 (n lo hi:Int) (Q:yc):Prop :=
 (decide (n>=lo)=true->Q (.bool (decide (n<=hi))) [])/\(decide (n>=lo)=false->Q (.bool false) [])
theorem s88 (n lo hi:Int) (v O) (h:R88 n lo hi (fun r O'=>r=v/\O'=O)):Sp 88 [iN n,iN lo,iN hi] [] v O :=
 zS ⟨[0,1,2,6],[],[],[]⟩ Tryz.func88 Tryz.call88 rfl (by kernel_rfl) h
theorem c88 (n lo hi:Int):Sp 88 [.int .i64 n,.int .i64 lo,.int .i64 hi] [] (.bool (!yz n lo hi)) []:=s88 n lo hi _ _ (by
 unfold R88 yz;refine⟨fun h=>⟨?_,rfl⟩,fun h=>⟨?_,rfl⟩⟩
 ·have h:=zt_ h;rw[decide_eq_false (show ¬ n<lo by omega),Bool.false_or,<- decide_not,AV.bool.injEq,decide_eq_decide];omega
 ·have h:=zf_ h;rw[decide_eq_true (show n<lo by omega)];rfl)
theorem Mq (c:TSnCity):wI c=(yz c.Lat (-88000000) 88000000 || (yz c.Lon (-180000000) 180000000 || (yz c.Zone (-50400) 50400 || (decide (c.Altitude.Lo < -18000000) || (decide (c.Altitude.Lo>c.Altitude.Hi) || decide (c.Altitude.Hi>0)))))):=by
 unfold wI;congr 3;unfold yz;rw[Bool.eq_iff_iff];simp only[Bool.or_eq_true,decide_eq_true_eq];omega
def R43 (c:TSnCity) (Q:yc):Prop :=
 ∃b0,Sp 88 [iN c.Lat,iN (-88000000:Int),iN 88000000] [] (.bool b0) []/\((!b0)=true->Q (iN 7) [])/\((!b0)=false->∃b4,Sp 88 [iN c.Lon,iN (-180000000:Int),iN 180000000] [] (.bool b4) []/\((!b4)=true->Q (iN 7) [])/\((!b4)=false->∃b8,Sp 88 [iN c.Zone,iN (-50400:Int),iN 50400] [] (.bool b8) []/\((!b8)=true->Q (iN 7) [])/\((!b8)=false->(decide (c.Altitude.Lo<(-18000000:Int))=true->Q (iN 7) [])/\(decide (c.Altitude.Lo<(-18000000:Int))=false->(decide (c.Altitude.Lo>c.Altitude.Hi)=true->Q (iN 7) [])/\(decide (c.Altitude.Lo>c.Altitude.Hi)=false->(decide (c.Altitude.Hi>0)=true->Q (iN 7) [])/\(decide (c.Altitude.Hi>0)=false->Q (iN 0) []))))))
theorem s43 (c:TSnCity) (v O) (h:R43 c (fun r O'=>r=v/\O'=O)):Sp 43 [c.av] [] v O :=
 zS ⟨[0,1,2,39],[],[],[]⟩ Tryz.func43 Tryz.call43 rfl (by kernel_rfl) h
theorem c43 (c:TSnCity):Sp 43 [c.av] [] (.int .i64 (if wI c then 7 else 0)) []:=s43 c _ _ (by
 unfold R43;rw[Mq];refine⟨_,c88 ..,fun h=>⟨?_,rfl⟩,fun h1=>⟨_,c88 ..,fun h=>⟨?_,rfl⟩,fun h2=>⟨_,c88 ..,fun h=>⟨?_,rfl⟩,fun h3=>⟨fun h=>⟨?_,rfl⟩,fun h4=>⟨fun h=>⟨?_,rfl⟩,fun h5=>⟨fun h=>⟨?_,rfl⟩,fun h=>⟨?_,rfl⟩⟩⟩⟩⟩⟩⟩;all_goals (simp only[Bool.not_not,Bool.not_eq_false'] at *;simp[*]))
def za4 (c:TSnCity) (day:Int) (Q:yc):Prop :=
 ∃n0,Sp 165 [iN (wrap i64 ((-3:Int)*c.Lon)),iN 12500] [] (iN n0) []/\∃n2,Sp 166 [iN (wrap i64 ((-3:Int)*c.Lon)),iN 12500] [] (iN n2) []/\Q (.tup [iN (wrap i64 (wrap i64 ((86400:Int)*day)+n0)),iN (wrap i64 (wrap i64 ((86400:Int)*day)+n2))]) []
theorem zdt (c:TSnCity) (day:Int) (v O) (h:za4 c day (fun r O'=>r=v/\O'=O)):Sp 181 [c.av,iN day] [] v O :=
 zS ⟨[0,1,2,4,5],[],[],[]⟩ Tryz.func181 Tryz.call181 rfl (by kernel_rfl) h
theorem zbY (c:TSnCity) (day:Int):Sp 181 [c.av,.int .i64 day] [] (.tup [.int .i64 (xf ⟨c,day,true⟩).Lo,.int .i64 (xf ⟨c,day,true⟩).Hi]) []:=zdt c day _ _ (by
 refine⟨_,Qy _ _ (by decide),_,Gc _ _ (by decide),?_,rfl⟩;unfold xf jN qn yG;dsimp only;rw[Fc,show wrap i64 (0-3) = -3 from rfl,show (0:Int) - -3*c.Lon=3*c.Lon by omega];generalize qN (wrap i64 (3*c.Lon)) 12500=a;generalize qN (wrap i64 (-3*c.Lon)) 12500=b;obtain ⟨k1,e1⟩:=wx (86400*day);obtain ⟨k2,e2⟩:=wx (0-a);obtain ⟨k3,e3⟩:=wx (0-wrap i64 (0-b));obtain ⟨k4,e4⟩:=wx (0-b);rw[e1,e2,e3,e4];have h:∀ {a b c d:Int},a=b->c=d->AV.tup [.int .i64 a,.int .i64 c]=.tup [.int .i64 b,.int .i64 d]:=fun h1 h2=>by rw[h1,h2]
 exact h (wq (by omega)) (wq (by omega)))
theorem U2 (x y:TEncl):wv [x,y]=q9 x y:=LO x y
def FA (c:TSnCity) (day:Int) (rise:Bool) (Q:yc):Prop :=
 ∃n0 n1,Sp 181 [c.av,iN day] [] (.tup [iN n0,iN n1]) []/\(rise=true->Q (.agg [iN (wrap i64 (n0-44400)),iN (wrap i64 (n1+1200))]) [])/\(rise=false->Q (.agg [iN (wrap i64 (n0-1200)),iN (wrap i64 (n1+44400))]) [])
theorem zc6 (c:TSnCity) (day:Int) (rise:Bool) (v O) (h:FA c day rise (fun r O'=>r=v/\O'=O)):Sp 159 [c.av,iN day,.bool rise] [] v O :=
 zS ⟨[0,1,2,3,6,7,8,15],[],[],[]⟩ Tryz.func159 Tryz.call159 rfl (by kernel_rfl) h
theorem zbR (c:TSnCity) (day:Int) (rise:Bool):Sp 159 [c.av,.int .i64 day,.bool rise] [] (vP ⟨c,day,rise⟩).av []:=zc6 c day rise _ _ (by
 unfold FA vP;refine⟨_,_,zbY c day,fun g=>⟨?_,rfl⟩,fun g=>⟨?_,rfl⟩⟩
 ·subst g;rw[if_pos rfl,U2];rfl
 ·subst g;rw[if_neg (by simp),U2];rfl)
def xL (x:TEncl):Prop:=-100000000<=x.Lo/\x.Lo<=x.Hi/\x.Hi<=100000000
theorem Xx (a:TEncl) (m:Int):xL (yW a m).1:=by
 unfold yW;split
 ·exact⟨by decide,by decide,by decide⟩
 unfold Mc;dsimp only;obtain ⟨a1,a2,a3⟩:=N5 (wrap i64 (a.Lo+m));obtain ⟨b1,b2,b3⟩:=N5 (wrap i64 (a.Hi+m));unfold H9 G6 xb xL;split<;>split<;>(dsimp only;(repeat' split)<;>omega)
theorem uX {a b:Int} (ha:-100000000<=a/\a<=100000000) (hb:-100000000<=b/\b<=100000000):xL (yJ (a*b) 100000000):=by
 rw[ki (by decide)];have h1:a.natAbs*b.natAbs<=100000000*100000000:=Nat.mul_le_mul (by omega) (by omega);rw[<- Int.natAbs_mul] at h1;unfold xa xL;dsimp only;generalize a*b=z at *;omega
theorem XQ {x y:TEncl} (hx:xL x) (hy:xL y):xL (xb x y):=by
 obtain ⟨a1,a2,a3⟩:=hx;obtain ⟨b1,b2,b3⟩:=hy;unfold xb xL;dsimp only
 (repeat' split)<;>omega
theorem UZ {x y:TEncl} (hx:xL x) (hy:xL y):xL (jE x y).1:=by
 obtain ⟨a1,a2,a3⟩:=hx;obtain ⟨b1,b2,b3⟩:=hy;unfold jE jr;have h:xL (wi (fun a b=>yJ (a*b) 100000000) x y) :=
  XQ (XQ (XQ (uX (by omega) (by omega)) (uX (by omega) (by omega))) (uX (by omega) (by omega))) (uX (by omega) (by omega))
 split
 ·exact⟨by decide,by decide,by decide⟩
 split
 ·exact⟨by decide,by decide,by decide⟩
 split
 ·exact⟨by decide,by decide,by decide⟩
 exact h
theorem PN {x:TEncl} (h:xL x):jJ x:=by obtain ⟨a1,a2,a3⟩:=h;unfold jJ;omega
theorem JO (w:TEncl) (h:THalf) (lat:TEncl):∃x y:TEncl,x=(yW h.c.Altitude 0).1/\y=(jE (yW lat 0).1 (jm w).sin).1/\JN w h lat=⟨x.Lo-y.Hi,x.Hi-y.Lo⟩/\jJ x/\jJ y/\jJ ⟨x.Lo-y.Hi,x.Hi-y.Lo⟩:=by
 have hx:=Xx h.c.Altitude 0;have hd:xL (jm w).sin:=UZ (Xx _ _) (Xx _ _);have hy:=UZ (Xx lat 0) hd;refine⟨_,_,rfl,rfl,?_,PN hx,PN hy,?_⟩
 ·show wv [_,qn (jE (yW lat 0).1 (jm w).sin).1]=_;generalize (yW h.c.Altitude 0).1=x at *;generalize (jE (yW lat 0).1 (jm w).sin).1=y at *;obtain ⟨a1,a2,a3⟩:=hx;obtain ⟨b1,b2,b3⟩:=hy;rw[U2];unfold q9 qn;dsimp only;rw[zw6 (n:=0-y.Hi) (by omega),zw6 (n:=0-y.Lo) (by omega),zw6 (by omega),zw6 (by omega)];congr 1<;>omega
 ·obtain ⟨a1,a2,a3⟩:=hx;obtain ⟨b1,b2,b3⟩:=hy;unfold jJ;dsimp only;omega
def FE (c:TSnCity) (s:TEncl) (Q:yc):Prop :=
 ∃n0 n1,Sp 164 [iN c.Lat] [] (.agg [iN n0,iN n1]) []/\∃n3 n4,Sp 185 [AV.agg [iN n0,iN n1]] [] (.agg [iN n3,iN n4]) []/\∃n6 n7 n8,Sp 189 [AV.agg [iN n3,iN n4],s.av] [] (.tup [AV.agg [iN n6,iN n7],iN n8]) []/\∃n10 n11,Sp 164 [iN c.Lat] [] (.agg [iN n10,iN n11]) []/\∃n13 n14,Sp 190 [AV.agg [iN n10,iN n11]] [] (.agg [iN n13,iN n14]) []/\∃n16 n17,Sp 191 [s.av] [] (.agg [iN n16,iN n17]) []/\∃n19 n20 n21,Sp 189 [AV.agg [iN n13,iN n14],.agg [iN n16,iN n17]] [] (.tup [AV.agg [iN n19,iN n20],iN n21]) []/\∃n23 n24,Sp 185 [c.Altitude.av] [] (.agg [iN n23,iN n24]) []/\∃n26 n27 n28,Sp 192 [AV.agg [iN n23,iN n24],.agg [iN n6,iN n7]] [] (.tup [AV.agg [iN n26,iN n27],iN n28]) []/\∃n30 n31 n32,Sp 193 [AV.agg [iN n26,iN n27],.agg [iN n19,iN n20]] [] (.tup [AV.agg [iN n30,iN n31],iN n32]) []/\(decide (n30>100000000)=true->Q (.tup [AV.agg [iN n30,iN n31],iN 1]) [])/\(decide (n30>100000000)=false->(decide (n31<(-100000000:Int))=true->Q (.tup [AV.agg [iN n30,iN n31],iN 2]) [])/\(decide (n31<(-100000000:Int))=false->(decide (n30<(-100000000:Int))=true->Q (.tup [AV.agg [iN n30,iN n31],iN 3]) [])/\(decide (n30<(-100000000:Int))=false->(decide (n31>100000000)=true->Q (.tup [AV.agg [iN n30,iN n31],iN 3]) [])/\(decide (n31>100000000)=false->Q (.tup [AV.agg [iN n30,iN n31],iN 0]) []))))
theorem zda (c:TSnCity) (s:TEncl) (v O) (h:FE c s (fun r O'=>r=v/\O'=O)):Sp 161 [c.av,s.av] [] v O :=
 zS ⟨[0,1,2,3,4,5,6,8,10,12,47,52,57],[],[],[]⟩ Tryz.func161 Tryz.call161 rfl (by kernel_rfl) h
theorem zbT (w:TEncl) (h:THalf):Sp 161 [h.c.av,(jm w).sin.av] [] (.tup [(qS w h ⟨h.c.Lat,h.c.Lat⟩).av,.int .i64 (qK w h ⟨h.c.Lat,h.c.Lat⟩).1]) []:=zda h.c (jm w).sin _ _ (by
 unfold FE;obtain ⟨x,y,hx,hy,ht,n1,n2,n3⟩:=JO w h ⟨h.c.Lat,h.c.Lat⟩;have km:=zb0 x y n1 n2 n3;rw[<- ht] at km;have ks:=QC h.c.Altitude;have kt:=Gf (yW ⟨h.c.Lat,h.c.Lat⟩ 0).1 (jm w).sin;rw[<- hx] at ks;rw[<- hy] at kt;have kq:Sp 189 [(yW ⟨h.c.Lat,h.c.Lat⟩ 90000000).1.av,(jm w).cos.av] [] (.tup [(vV (yW ⟨h.c.Lat,h.c.Lat⟩ 90000000).1 [(jm w).cos]).av,.int .i64 (jE (yW ⟨h.c.Lat,h.c.Lat⟩ 90000000).1 (jm w).cos).2]) []:=Gf _ _;have kc:Sp 191 [(jm w).sin.av] [] (jm w).cos.av []:=zbZ _;have ko:∃e,Sp 193 [(JN w h ⟨h.c.Lat,h.c.Lat⟩).av,(vV (yW ⟨h.c.Lat,h.c.Lat⟩ 90000000).1 [(jm w).cos]).av] [] (.tup [(qS w h ⟨h.c.Lat,h.c.Lat⟩).av,.int .i64 e]) []:=⟨_,zb1 _ _⟩;obtain ⟨e,ko⟩:=ko;unfold qK;generalize qS w h ⟨h.c.Lat,h.c.Lat⟩=r at *;refine⟨_,_,J7 _,_,_,QC _,_,_,_,kt,_,_,J7 _,_,_,DL _,_,_,kc,_,_,_,kq,_,_,ks,_,_,_,km,_,_,_,ko,fun g=>⟨?_,rfl⟩,fun g1=>⟨fun g=>⟨?_,rfl⟩,fun g2=>⟨fun g=>⟨?_,rfl⟩,fun g3=>⟨fun g=>⟨?_,rfl⟩,fun g4=>⟨?_,rfl⟩⟩⟩⟩⟩
 ·rw[if_pos (zt_ g)];rfl
 ·rw[if_neg (zf_ g1),if_pos (zt_ g)];rfl
 ·rw[if_neg (zf_ g1),if_neg (zf_ g2),if_pos (zt_ g)];rfl
 ·rw[if_neg (zf_ g1),if_neg (zf_ g2),if_neg (zf_ g3),if_pos (zt_ g)];rfl
 ·rw[if_neg (zf_ g1),if_neg (zf_ g2),if_neg (zf_ g3),if_neg (zf_ g4)];rfl)
theorem P1 {w:TEncl} {h:THalf} {lat:TEncl} (hz:(qK w h lat).1=0):(qK w h lat).2=NX w h lat:=by
 unfold qK at hz ⊢;split
 ·rename_i g;rw[if_pos g] at hz;cases hz
 split
 ·rename_i g1 g;rw[if_neg g1,if_pos g] at hz;cases hz
 split
 ·rename_i g1 g2 g;rw[if_neg g1,if_neg g2,if_pos g] at hz;cases hz
 split
 ·rename_i g1 g2 g3 g;rw[if_neg g1,if_neg g2,if_neg g3,if_pos g] at hz;cases hz
 rfl
theorem T3 (hh e:TEncl) (lon day:Int):(⟨wrap i64 (wrap i64 (86400*day)+qN (wrap i64 (3*(dfE (dfE hh ⟨lon,lon⟩) e).Lo)) 12500),wrap i64 (wrap i64 (86400*day)+(yG (dfE (dfE hh ⟨lon,lon⟩) e) 3 12500).Hi)⟩:TEncl)=jN (yG (wv [hh,⟨wrap i64 (0-lon),wrap i64 (0-lon)⟩,qn e]) 3 12500) (wrap i64 (86400*day)):=by
 have e1:wv [hh,⟨wrap i64 (0-lon),wrap i64 (0-lon)⟩,qn e]=dfE (dfE hh ⟨lon,lon⟩) e:=by
  unfold wv;show q9 (q9 (q9 ⟨0,0⟩ hh) _) _=_;rw[LO];unfold dfE q9 qn;dsimp only;obtain ⟨k1,e1⟩:=wx (0-lon);obtain ⟨k2,e2⟩:=wx (0-e.Hi);obtain ⟨k3,e3⟩:=wx (0-e.Lo);obtain ⟨k4,e4⟩:=wx (hh.Lo-lon);obtain ⟨k5,e5⟩:=wx (hh.Hi-lon);rw[e1,e2,e3,e4,e5];obtain ⟨k6,e6⟩:=wx (hh.Lo+(0-lon+18446744073709551616*k1));obtain ⟨k7,e7⟩:=wx (hh.Hi+(0-lon+18446744073709551616*k1));rw[e6,e7];congr 1<;>exact wq (by omega)
 rw[e1];unfold jN;rw[Int.add_comm _ (wrap i64 (86400*day)),Int.add_comm _ (wrap i64 (86400*day))];rfl
def Fy (c:TSnCity) (day:Int) (rise:Bool) (Q:yc):Prop :=
 ∃n0 n1,Sp 159 [c.av,iN day,.bool rise] [] (.agg [iN n0,iN n1]) []/\∃(I3:Nat->List AV->Prop),(∃m5,I3 m5 [iN 0,TEncl.zero.av,.agg [iN n0,iN n1]])/\∀(m5:Nat) (n6 n7 n8 n9 n10:Int),I3 m5 [iN n6,.agg [iN n7,iN n8],.agg [iN n9,iN n10]]->(decide (n6<3)=true->∃n14 n15 n16 n17,Sp 160 [AV.agg [iN n9,iN n10]] [] (.tup [AV.agg [iN n14,iN n15],.agg [iN n16,iN n17]]) []/\∃n19 n20 n21,Sp 161 [c.av,.agg [iN n14,iN n15]] [] (.tup [AV.agg [iN n19,iN n20],iN n21]) []/\((n21 != 0)=true->Q (.tup [iN n21,TEncl.zero.av]) [])/\((n21 != 0)=false->∃n25 n26 n27,Sp 162 [AV.agg [iN n19,iN n20]] [] (.tup [AV.agg [iN n25,iN n26],iN n27]) []/\(rise=true->∃n31 n32,Sp 164 [iN c.Lon] [] (.agg [iN n31,iN n32]) []/\∃n34 n35,Sp 163 [AV.agg [iN (wrap i64 ((0:Int)-n26)),iN (wrap i64 ((0:Int)-n25))],.agg [iN n31,iN n32]] [] (.agg [iN n34,iN n35]) []/\∃n37 n38,Sp 163 [AV.agg [iN n34,iN n35],.agg [iN n16,iN n17]] [] (.agg [iN n37,iN n38]) []/\∃n40,Sp 165 [iN (wrap i64 ((3:Int)*n37)),iN 12500] [] (iN n40) []/\∃n42,Sp 166 [iN (wrap i64 ((3:Int)*n38)),iN 12500] [] (iN n42) []/\c.cs=c.cs/\∃k45,k45<m5/\I3 k45 [iN (wrap i64 (n6+1)),.agg [iN n7,iN n8],.agg [iN (wrap i64 (wrap i64 ((86400:Int)*day)+n40)),iN (wrap i64 (wrap i64 ((86400:Int)*day)+n42))]])/\(rise=false->∃n31 n32,Sp 164 [iN c.Lon] [] (.agg [iN n31,iN n32]) []/\∃n34 n35,Sp 163 [AV.agg [iN n25,iN n26],.agg [iN n31,iN n32]] [] (.agg [iN n34,iN n35]) []/\∃n37 n38,Sp 163 [AV.agg [iN n34,iN n35],.agg [iN n16,iN n17]] [] (.agg [iN n37,iN n38]) []/\∃n40,Sp 165 [iN (wrap i64 ((3:Int)*n37)),iN 12500] [] (iN n40) []/\∃n42,Sp 166 [iN (wrap i64 ((3:Int)*n38)),iN 12500] [] (iN n42) []/\c.cs=c.cs/\∃k45,k45<m5/\I3 k45 [iN (wrap i64 (n6+1)),.agg [iN n7,iN n8],.agg [iN (wrap i64 (wrap i64 ((86400:Int)*day)+n40)),iN (wrap i64 (wrap i64 ((86400:Int)*day)+n42))]])))/\(decide (n6<3)=false->Q (.tup [iN 0,.agg [iN n9,iN n10]]) [])
theorem zc1 (c:TSnCity) (day:Int) (rise:Bool) (v O) (h:Fy c day rise (fun r O'=>r=v/\O'=O)):Sp 148 [c.av,iN day,.bool rise] [] v O :=
 zS ⟨[0,1,2,3,6,7,8,9,10,11,12,13,14,16,22,37,45],[⟨3,[(9,iN 0)],[],[(7,.agg [iN 0,iN 0]),(8,.agg [iN 0,iN 0])],[],[],[]⟩],[],[]⟩ Tryz.func148 Tryz.call148 rfl (by kernel_rfl) h
theorem zbM (c:TSnCity) (day:Int) (rise:Bool):Sp 148 [c.av,.int .i64 day,.bool rise] [] (.tup [.int .i64 (xG ⟨c,day,rise⟩).1,(xG ⟨c,day,rise⟩).2.av]) []:=zc1 c day rise _ _ (by
 unfold Fy;refine⟨_,_,zbR c day rise,fun m vs=>∃(k:Nat) (w:TEncl),m+k=3/\vs=[.int .i64 k,TEncl.zero.av,w.av]/\UM ⟨c,day,rise⟩ m 0 w=xG ⟨c,day,rise⟩,⟨3,0,vP ⟨c,day,rise⟩,rfl,rfl,rfl⟩,?_⟩;rintro m _ _ _ _ _ ⟨k,w,hm,hv,hp⟩;unfold TEncl.av TEncl.cs at hv;cases hv;refine⟨fun g=>?_,fun g=>?_⟩
 ·have hk:k<3:=by have:=zt_ g;omega
  obtain ⟨j,rfl⟩:∃j,m=j+1:=⟨m-1,by omega⟩;rw[N1] at hp;refine⟨_,_,_,_,zbS w,_,_,_,zbT w ⟨c,day,rise⟩,fun g2=>⟨?_,rfl⟩,fun g2=>?_⟩
  ·have g2:(qK w ⟨c,day,rise⟩ ⟨c.Lat,c.Lat⟩).1≠0:=by simpa using g2
   rw[if_pos g2] at hp;rw[<- hp];rfl
  have g2:(qK w ⟨c,day,rise⟩ ⟨c.Lat,c.Lat⟩).1=0:=by simpa using g2
  rw[if_neg (by simp[g2]),P1 g2,g2] at hp;have hn:NX w ⟨c,day,rise⟩ ⟨c.Lat,c.Lat⟩=jN (yG (wv [ux w ⟨c,day,rise⟩ ⟨c.Lat,c.Lat⟩,⟨wrap i64 (0-c.Lon),wrap i64 (0-c.Lon)⟩,qn (jm w).equation]) 3 12500) (wrap i64 (86400*day)):=rfl;refine⟨_,_,_,DE (qS w ⟨c,day,rise⟩ ⟨c.Lat,c.Lat⟩),fun g3=>?_,fun g3=>?_⟩
  ·have hh:ux w ⟨c,day,rise⟩ ⟨c.Lat,c.Lat⟩=qn (yX (qS w ⟨c,day,rise⟩ ⟨c.Lat,c.Lat⟩)).1:=by unfold ux;rw[if_pos g3]
   rw[hh,<- T3] at hn;have k1:=Ml (qn (yX (qS w ⟨c,day,rise⟩ ⟨c.Lat,c.Lat⟩)).1) ⟨c.Lon,c.Lon⟩;refine⟨_,_,J7 _,_,_,k1,_,_,Ml _ (jm w).equation,_,Qy _ _ (by decide),_,Nv _ 3 12500 (by decide),rfl,j,by omega,k+1,_,by omega,?_,hp⟩;rw[yr (by omega),hn];rfl
  ·have hh:ux w ⟨c,day,rise⟩ ⟨c.Lat,c.Lat⟩=(yX (qS w ⟨c,day,rise⟩ ⟨c.Lat,c.Lat⟩)).1:=by unfold ux;rw[if_neg (by show ¬ rise=true;rw[g3];simp)]
   rw[hh,<- T3] at hn;have k1:=Ml (yX (qS w ⟨c,day,rise⟩ ⟨c.Lat,c.Lat⟩)).1 ⟨c.Lon,c.Lon⟩;refine⟨_,_,J7 _,_,_,k1,_,_,Ml _ (jm w).equation,_,Qy _ _ (by decide),_,Nv _ 3 12500 (by decide),rfl,j,by omega,k+1,_,by omega,?_,hp⟩;rw[yr (by omega),hn];rfl
 ·have hk:¬ k<3:=by have:=zf_ g;omega
  obtain rfl:m=0:=by omega
  rw[N0] at hp;rw[<- hp];exact⟨rfl,rfl⟩)
def zaS (c:TSnCity) (day moment:Int) (Q:yc):Prop :=
 Q (iN (wrap i64 (wrap i64 (wrap i64 (moment+43200)+c.Zone)-wrap i64 ((86400:Int)*day)))) []
theorem zc2 (c:TSnCity) (day moment:Int) (v O) (h:zaS c day moment (fun r O'=>r=v/\O'=O)):Sp 149 [c.av,iN day,iN moment] [] v O :=
 zS ⟨[0,1,2,3,6],[],[],[]⟩ Tryz.func149 Tryz.call149 rfl (by kernel_rfl) h
theorem zbN (c:TSnCity) (day m:Int):Sp 149 [c.av,.int .i64 day,.int .i64 m] [] (.int .i64 (wrap i64 (m+wrap i64 (wrap i64 (43200+c.Zone)-wrap i64 (86400*day))))) []:=zc2 c day m _ _ (by
 refine⟨?_,rfl⟩;obtain ⟨k1,e1⟩:=wx (86400*day);obtain ⟨k2,e2⟩:=wx (43200+c.Zone);obtain ⟨k3,e3⟩:=wx (m+43200);rw[e1,e2,e3];obtain ⟨k4,e4⟩:=wx (m+43200+18446744073709551616*k3+c.Zone);obtain ⟨k5,e5⟩:=wx (43200+c.Zone+18446744073709551616*k2-(86400*day+18446744073709551616*k1));rw[e4,e5];congr 1;exact wq (by omega))
def Fv (c:TSnCity) (day:Int) (rise:Bool) (Q:yc):Prop :=
 ∃n0,Sp 43 [c.av] [] (iN n0) []/\((n0 == 0)=true->∃b4,Sp 88 [iN day,iN 0,iN 40000] [] (.bool b4) []/\((!b4)=true->Q (.tup [iN 0,TEncl.zero.av,iN 7]) [])/\((!b4)=false->((n0 != 0)=true->Q (.tup [iN 0,TEncl.zero.av,iN n0]) [])/\((n0 != 0)=false->∃n10 n11 n12,Sp 148 [c.av,iN day,.bool rise] [] (.tup [iN n10,.agg [iN n11,iN n12]]) []/\((n10 != 0)=true->Q (.tup [iN n10,TEncl.zero.av,iN 0]) [])/\((n10 != 0)=false->∃n16,Sp 149 [c.av,iN day,iN n11] [] (iN n16) []/\∃n18,Sp 149 [c.av,iN day,iN n12] [] (iN n18) []/\Q (.tup [iN n10,.agg [iN n16,iN n18],iN 0]) []))))/\((n0 == 0)=false->((n0 != 0)=true->Q (.tup [iN 0,TEncl.zero.av,iN n0]) [])/\((n0 != 0)=false->∃n6 n7 n8,Sp 148 [c.av,iN day,.bool rise] [] (.tup [iN n6,.agg [iN n7,iN n8]]) []/\((n6 != 0)=true->Q (.tup [iN n6,TEncl.zero.av,iN 0]) [])/\((n6 != 0)=false->∃n12,Sp 149 [c.av,iN day,iN n7] [] (iN n12) []/\∃n14,Sp 149 [c.av,iN day,iN n8] [] (iN n14) []/\Q (.tup [iN n6,.agg [iN n12,iN n14],iN 0]) [])))
theorem zcW (c:TSnCity) (day:Int) (rise:Bool) (v O) (h:Fv c day rise (fun r O'=>r=v/\O'=O)):Sp 132 [c.av,iN day,.bool rise] [] v O :=
 zS ⟨[0,1,2,3,6,7,8,9,10,11,20,22,33],[],[],[]⟩ Tryz.func132 Tryz.call132 rfl (by kernel_rfl) h
theorem DB (c:TSnCity) (day:Int) (rise:Bool):Sp 132 [c.av,.int .i64 day,.bool rise] [] (.tup [.int .i64 (yZ ⟨c,day,rise⟩).1,(yZ ⟨c,day,rise⟩).2.1.av,.int .i64 (yZ ⟨c,day,rise⟩).2.2]) []:=zcW c day rise _ _ (by
 unfold Fv yZ;dsimp only;have kp:=zbM c day rise;have kl:=zbN c day;generalize xG ⟨c,day,rise⟩=p at *;refine⟨_,c43 c,?_⟩;cases hc:wI c with
 |true=>exact⟨fun q=>(by simp at q),fun _=>⟨fun _=>⟨rfl,rfl⟩,fun q=>(by simp at q)⟩⟩
 |false =>
  refine⟨fun _=>⟨_,c88 ..,fun g=>⟨?_,rfl⟩,fun g=>⟨fun q=>(by simp at q),fun _=>⟨_,_,_,kp,fun g2=>⟨?_,rfl⟩,fun g2=>⟨_,kl _,_,kl _,?_,rfl⟩⟩⟩⟩,fun q=>(by simp at q)⟩;all_goals simp only[Bool.not_not,Bool.not_eq_false'] at g
  ·rw[g];rfl
  ·have g2:p.1≠0:=by simpa using g2
   simp[g,g2];rfl
  ·have g2:p.1=0:=by simpa using g2
   simp[g,g2];rfl)
def zaJ (c:TSnCity) (day:Int) (Q:yc):Prop :=
 ∃n0 n1 n2 n3,Sp 132 [c.av,iN day,.bool true] [] (.tup [iN n0,.agg [iN n1,iN n2],iN n3]) []/\Q (.tup [iN n0,.agg [iN n1,iN n2],iN n3]) []
theorem zcM (c:TSnCity) (day:Int) (v O) (h:zaJ c day (fun r O'=>r=v/\O'=O)):Sp 117 [c.av,iN day] [] v O :=
 zS ⟨[0,1,2,4,5,6],[],[],[]⟩ Tryz.func117 Tryz.call117 rfl (by kernel_rfl) h
theorem zbD (c:TSnCity) (day:Int):Sp 117 [c.av,.int .i64 day] [] (.tup [.int .i64 (yZ ⟨c,day,true⟩).1,(yZ ⟨c,day,true⟩).2.1.av,.int .i64 (yZ ⟨c,day,true⟩).2.2]) []:=zcM c day _ _ ⟨_,_,_,_,DB c day true,rfl,rfl⟩
def zaK (c:TSnCity) (day:Int) (Q:yc):Prop :=
 ∃n0 n1 n2 n3,Sp 132 [c.av,iN day,.bool false] [] (.tup [iN n0,.agg [iN n1,iN n2],iN n3]) []/\Q (.tup [iN n0,.agg [iN n1,iN n2],iN n3]) []
theorem zcN (c:TSnCity) (day:Int) (v O) (h:zaK c day (fun r O'=>r=v/\O'=O)):Sp 118 [c.av,iN day] [] v O :=
 zS ⟨[0,1,2,4,5,6],[],[],[]⟩ Tryz.func118 Tryz.call118 rfl (by kernel_rfl) h
theorem zbE (c:TSnCity) (day:Int):Sp 118 [c.av,.int .i64 day] [] (.tup [.int .i64 (yZ ⟨c,day,false⟩).1,(yZ ⟨c,day,false⟩).2.1.av,.int .i64 (yZ ⟨c,day,false⟩).2.2]) []:=zcN c day _ _ ⟨_,_,_,_,DB c day false,rfl,rfl⟩
end Go.Proofs.YtkojpnkknehhmaaGreatDoor

/- Contracts: depots and tours: small functions. Contracts: programmes. -/
import Derived.Test.YtkojpnkknehhmaaGreatDoorRb
namespace Go.Proofs.YtkojpnkknehhmaaGreatDoor
open Go.IntKind (wrap i64 u64)
open Go.RowKit
def xr (a b:Int):Int:=if b>a then b else a
def vK (a b:Int):Int:=if b<a then b else a
def wH (a b:TRoSpan):TRoSpan:=if xr a.From b.From>vK a.Until b.Until then ⟨1,0⟩ else ⟨xr a.From b.From,vK a.Until b.Until⟩
def Fm (a b:TRoSpan) (Q:yc):Prop :=
 (decide ((if true=true then if b.From>a.From then b.From else a.From else if b.From<a.From then b.From else a.From)>if false=true then if b.Until>a.Until then b.Until else a.Until else if b.Until<a.Until then b.Until else a.Until)=true->Q (.agg [iN 1,iN 0]) [])/\(decide ((if true=true then if b.From>a.From then b.From else a.From else if b.From<a.From then b.From else a.From)>if false=true then if b.Until>a.Until then b.Until else a.Until else if b.Until<a.Until then b.Until else a.Until)=false->Q (.agg [iN (if b.From>a.From then b.From else a.From),iN (if b.Until<a.Until then b.Until else a.Until)]) [])
theorem zcJ (a b:TRoSpan) (v O) (h:Fm a b (fun r O'=>r=v/\O'=O)):Sp 108 [a.av,b.av] [] v O :=
 zS ⟨[0,1,2,3,4,20],[],[],[]⟩ Tryz.func108 Tryz.call108 rfl (by kernel_rfl) h
theorem Ga (a b:TRoSpan):Sp 108 [a.av,b.av] [] (wH a b).av []:=zcJ a b _ _ (by
 unfold Fm;refine⟨fun h=>⟨?_,by trivial⟩,fun h=>⟨?_,by trivial⟩⟩
 ·have h:xr a.From b.From>vK a.Until b.Until:=zt_ h;unfold wH;rw[if_pos h];rfl
 ·have h:¬ xr a.From b.From>vK a.Until b.Until:=zf_ h;unfold wH;rw[if_neg h];rfl)
def qk (t:TRoTask) (k:Int):TRoJob:=t.Jobs.getD k.toNat TRoJob.zero
theorem kV {t:TRoTask} {k:Int} (h0:0<=k) (h:k<t.Jobs.length):(t.Jobs.map TRoJob.av)[k.toNat]? = some (qk t k).av/\qk t k∈t.Jobs:=by
 have hl:k.toNat<t.Jobs.length:=by omega
 unfold qk;rw[List.getElem?_map,List.getD_eq_getElem?_getD,List.getElem?_eq_getElem hl];exact⟨rfl,List.getElem_mem hl⟩
def TT (t:TRoTask) (k:Int):TRoLorry:=t.Lorries.getD k.toNat TRoLorry.zero
theorem NV {t:TRoTask} {k:Int} (h0:0<=k) (h:k<t.Lorries.length):(t.Lorries.map TRoLorry.av)[k.toNat]? = some (TT t k).av/\TT t k∈t.Lorries:=by
 have hl:k.toNat<t.Lorries.length:=by omega
 unfold TT;rw[List.getElem?_map,List.getD_eq_getElem?_getD,List.getElem?_eq_getElem hl];exact⟨rfl,List.getElem_mem hl⟩
def je (d:TDepot) (k:Int):TRoSpan:=d.spans.getD k.toNat TRoSpan.zero
theorem PH {d:TDepot} {k:Int} (h0:0<=k) (h:k<d.spans.length):(d.spans.map TRoSpan.av)[k.toNat]? = some (je d k).av:=by
 have hl:k.toNat<d.spans.length:=by omega
 unfold je;rw[List.getElem?_map,List.getD_eq_getElem?_getD,List.getElem?_eq_getElem hl];rfl
def atX (t:TRoTask) (k:Int):Int:=if k>=0 then (qk t k).X else t.X
def atY (t:TRoTask) (k:Int):Int:=if k>=0 then (qk t k).Y else t.Y
def Fb (x y u v p:Int):Int:=wrap i64 ((wrap i64 (wrap i64 (wrap i64 (wrap i64 (wrap i64 (xr x u-vK x u)+xr y v)-vK y v)*p)+999)).tdiv 1000)
def Qj (t:TRoTask) (k n:Int):Int:=Fb (atX t k) (atY t k) (atX t n) (atY t n) t.Pace
theorem YV {t:TRoTask} {k:Int} (h:k>=0):atX t k=(qk t k).X:=if_pos h
theorem YX {t:TRoTask} {k:Int} (h:k>=0):atY t k=(qk t k).Y:=if_pos h
theorem YU {t:TRoTask} {k:Int} (h:¬ k>=0):atX t k=t.X:=if_neg h
theorem YW {t:TRoTask} {k:Int} (h:¬ k>=0):atY t k=t.Y:=if_neg h
def R50 (d:TDepot) (k n:Int) (Q:yc):Prop :=
 (decide (k>=0)=true->∃s2 n3 n4 n5 n6 es7 n8 b9 n10,((0:Int)<=k/\(9:Nat)=(9:Nat)/\(List.map TRoJob.av d.RoTask.Jobs)[k.toNat]? = some (.agg [AV.str s2,iN n3,iN n4,iN n5,iN n6,.slc 3 es7,iN n8,.bool b9,iN n10]))/\∃s12 n13 n14 n15 n16 es17 n18 b19 n20,((0:Int)<=k/\(9:Nat)=(9:Nat)/\(List.map TRoJob.av d.RoTask.Jobs)[k.toNat]? = some (.agg [AV.str s12,iN n13,iN n14,iN n15,iN n16,.slc 3 es17,iN n18,.bool b19,iN n20]))/\(decide (n>=0)=true->∃s24 n25 n26 n27 n28 es29 n30 b31 n32,((0:Int)<=n/\(9:Nat)=(9:Nat)/\(List.map TRoJob.av d.RoTask.Jobs)[n.toNat]? = some (.agg [AV.str s24,iN n25,iN n26,iN n27,iN n28,.slc 3 es29,iN n30,.bool b31,iN n32]))/\∃s34 n35 n36 n37 n38 es39 n40 b41 n42,((0:Int)<=n/\(9:Nat)=(9:Nat)/\(List.map TRoJob.av d.RoTask.Jobs)[n.toNat]? = some (.agg [AV.str s34,iN n35,iN n36,iN n37,iN n38,.slc 3 es39,iN n40,.bool b41,iN n42]))/\Q (iN (wrap i64 ((wrap i64 (wrap i64 (wrap i64 (wrap i64 (wrap i64 ((if n25>n3 then n25 else n3)-if n25<n3 then n25 else n3)+if n36>n14 then n36 else n14)-if n36<n14 then n36 else n14)*d.RoTask.Pace)+999)).tdiv (1000:Int)))) [])/\(decide (n>=0)=false->Q (iN (wrap i64 ((wrap i64 (wrap i64 (wrap i64 (wrap i64 (wrap i64 ((if d.RoTask.X>n3 then d.RoTask.X else n3)-if d.RoTask.X<n3 then d.RoTask.X else n3)+if d.RoTask.Y>n14 then d.RoTask.Y else n14)-if d.RoTask.Y<n14 then d.RoTask.Y else n14)*d.RoTask.Pace)+999)).tdiv (1000:Int)))) []))/\(decide (k>=0)=false->(decide (n>=0)=true->∃s4 n5 n6 n7 n8 es9 n10 b11 n12,((0:Int)<=n/\(9:Nat)=(9:Nat)/\(List.map TRoJob.av d.RoTask.Jobs)[n.toNat]? = some (.agg [AV.str s4,iN n5,iN n6,iN n7,iN n8,.slc 3 es9,iN n10,.bool b11,iN n12]))/\∃s14 n15 n16 n17 n18 es19 n20 b21 n22,((0:Int)<=n/\(9:Nat)=(9:Nat)/\(List.map TRoJob.av d.RoTask.Jobs)[n.toNat]? = some (.agg [AV.str s14,iN n15,iN n16,iN n17,iN n18,.slc 3 es19,iN n20,.bool b21,iN n22]))/\Q (iN (wrap i64 ((wrap i64 (wrap i64 (wrap i64 (wrap i64 (wrap i64 ((if n5>d.RoTask.X then n5 else d.RoTask.X)-if n5<d.RoTask.X then n5 else d.RoTask.X)+if n16>d.RoTask.Y then n16 else d.RoTask.Y)-if n16<d.RoTask.Y then n16 else d.RoTask.Y)*d.RoTask.Pace)+999)).tdiv (1000:Int)))) [])/\(decide (n>=0)=false->Q (iN (wrap i64 ((wrap i64 (wrap i64 (wrap i64 (wrap i64 (wrap i64 ((if d.RoTask.X>d.RoTask.X then d.RoTask.X else d.RoTask.X)-if d.RoTask.X<d.RoTask.X then d.RoTask.X else d.RoTask.X)+if d.RoTask.Y>d.RoTask.Y then d.RoTask.Y else d.RoTask.Y)-if d.RoTask.Y<d.RoTask.Y then d.RoTask.Y else d.RoTask.Y)*d.RoTask.Pace)+999)).tdiv (1000:Int)))) []))
theorem s50 (d:TDepot) (k n:Int) (v O) (h:R50 d k n (fun r O'=>r=v/\O'=O)):Sp 50 [d.ptr,iN k,iN n] [] v O :=
 zS ⟨[0,1,2,6,7,8,9,10,11,23,53],[],[],[]⟩ Tryz.func50 Tryz.call50 rfl (by kernel_rfl) h
theorem c50 (d:TDepot) (k n:Int) (hk:k<d.RoTask.Jobs.length) (hn:n<d.RoTask.Jobs.length):Sp 50 [d.ptr,.int .i64 k,.int .i64 n] [] (.int .i64 (Qj d.RoTask k n)) []:=s50 d k n _ _ (by
 unfold R50 Qj;refine⟨fun h=>?_,fun h=>?_⟩
 ·have h:k>=0:=zt_ h;have hj:=(kV h hk).1;rw[YV h,YX h];refine⟨_,_,_,_,_,_,_,_,_,⟨h,by trivial,hj⟩,_,_,_,_,_,_,_,_,_,⟨h,by trivial,hj⟩,fun g=>?_,fun g=>?_⟩
  ·have g:n>=0:=zt_ g;have hj':=(kV g hn).1;rw[YV g,YX g];exact⟨_,_,_,_,_,_,_,_,_,⟨g,by trivial,hj'⟩,_,_,_,_,_,_,_,_,_,⟨g,by trivial,hj'⟩,rfl,by trivial⟩
  ·rw[YU (zf_ g),YW (zf_ g)];exact⟨rfl,by trivial⟩
 ·rw[YU (zf_ h),YW (zf_ h)];refine⟨fun g=>?_,fun g=>?_⟩
  ·have g:n>=0:=zt_ g;have hj':=(kV g hn).1;rw[YV g,YX g];exact⟨_,_,_,_,_,_,_,_,_,⟨g,by trivial,hj'⟩,_,_,_,_,_,_,_,_,_,⟨g,by trivial,hj'⟩,rfl,by trivial⟩
  ·rw[YU (zf_ g),YW (zf_ g)];exact⟨rfl,by trivial⟩)
def yF (d:TDepot) (k:Int):TTour:=⟨TT d.RoTask k,d.ptr,(TT d.RoTask k).From,-1,[],(TT d.RoTask k).Room,0,0⟩
def R60 (d:TDepot) (k:Int) (Q:yc):Prop :=
 ∃s0 n1 n2 n3 n4 n5,((0:Int)<=k/\(6:Nat)=(6:Nat)/\(List.map TRoLorry.av d.RoTask.Lorries)[k.toNat]? = some (.agg [AV.str s0,iN n1,iN n2,iN n3,iN n4,iN n5]))/\Q (.agg [AV.str s0,iN n1,iN n2,iN n3,iN n4,iN n5,.eptr d.cs (0:Nat),iN n3,iN (-1:Int),.slc 3 [],iN n2,iN 0,iN 0]) []
theorem s60 (d:TDepot) (k:Int) (v O) (h:R60 d k (fun r O'=>r=v/\O'=O)):Sp 60 [d.ptr,iN k] [] v O :=
 zS ⟨[0,1,4,5],[],[],[]⟩ Tryz.func60 Tryz.call60 rfl (by kernel_rfl) h
theorem c60 (d:TDepot) (k:Int) (h0:0<=k) (hk:k<d.RoTask.Lorries.length):Sp 60 [d.ptr,.int .i64 k] [] (yF d k).av [] :=
 s60 d k _ _ ⟨_,_,_,_,_,_,⟨h0,by trivial,(NV h0 hk).1⟩,rfl,rfl⟩
def ug (d:TDepot) (r:TTour):Int:=wrap i64 (r.now+Qj d.RoTask r.last (-1))
def R62 (d:TDepot) (r:TTour) (Q:yc):Prop :=
 ∃n0,Sp 50 [AV.eptr d.cs (0:Nat),iN (r.on d).last,iN (-1:Int)] [] (iN n0) []/\Q (iN (wrap i64 ((r.on d).now+n0))) [[AV.str (r.on d).RoLorry.Name,iN (r.on d).RoLorry.Lift,iN (r.on d).RoLorry.Room,iN (r.on d).RoLorry.From,iN (r.on d).RoLorry.Until,iN (r.on d).RoLorry.PerHour,.eptr d.cs (0:Nat),iN (r.on d).now,iN (r.on d).last,.slc 3 (List.map TRoStop.av (r.on d).stops),iN (r.on d).room,iN (r.on d).price,iN (r.on d).value]]
theorem s62 (d:TDepot) (r:TTour) (v O) (h:R62 d r (fun r O'=>r=v/\O'=O)):Sp 62 [.ref 0 0] [(r.on d).cs] v O :=
 zX ⟨[],[],[],[],[]⟩ 0 ⟨[0,2],[],[],[]⟩ [⟨108,false,(r.on d).cs⟩] (by exact trivial) Tryz.func62 Tryz.call62 rfl rfl rfl (by kernel_rfl) h
theorem c62 (d:TDepot) (r:TTour) (hl:r.last<d.RoTask.Jobs.length):Sp 62 [.ref 0 0] [(r.on d).cs] (.int .i64 (ug d r)) [(r.on d).cs] :=
 s62 d r _ _ ⟨_,c50 d r.last (-1) hl (by omega),rfl,rfl⟩
def NA (d:TDepot) (r:TTour):Int:=if r.last<0 then 0 else wrap i64 (r.price+wrap i64 ((wrap i64 (wrap i64 (wrap i64 (ug d r-r.RoLorry.From)*r.RoLorry.PerHour)+3599)).tdiv 3600))
def Fl (d:TDepot) (r:TTour) (Q:yc):Prop :=
 (decide ((r.on d).last<(0:Int))=true->Q (iN 0) [[AV.str (r.on d).RoLorry.Name,iN (r.on d).RoLorry.Lift,iN (r.on d).RoLorry.Room,iN (r.on d).RoLorry.From,iN (r.on d).RoLorry.Until,iN (r.on d).RoLorry.PerHour,.eptr d.cs (0:Nat),iN (r.on d).now,iN (r.on d).last,.slc 3 (List.map TRoStop.av (r.on d).stops),iN (r.on d).room,iN (r.on d).price,iN (r.on d).value]])/\(decide ((r.on d).last<(0:Int))=false->∃n2,Sp 62 [AV.ref 0 0] [[AV.str (r.on d).RoLorry.Name,iN (r.on d).RoLorry.Lift,iN (r.on d).RoLorry.Room,iN (r.on d).RoLorry.From,iN (r.on d).RoLorry.Until,iN (r.on d).RoLorry.PerHour,.eptr d.cs (0:Nat),iN (r.on d).now,iN (r.on d).last,.slc 3 (List.map TRoStop.av (r.on d).stops),iN (r.on d).room,iN (r.on d).price,iN (r.on d).value]] (iN n2) [[AV.str (r.on d).RoLorry.Name,iN (r.on d).RoLorry.Lift,iN (r.on d).RoLorry.Room,iN (r.on d).RoLorry.From,iN (r.on d).RoLorry.Until,iN (r.on d).RoLorry.PerHour,.eptr d.cs (0:Nat),iN (r.on d).now,iN (r.on d).last,.slc 3 (List.map TRoStop.av (r.on d).stops),iN (r.on d).room,iN (r.on d).price,iN (r.on d).value]]/\Q (iN (wrap i64 ((r.on d).price+wrap i64 ((wrap i64 (wrap i64 (wrap i64 (n2-(r.on d).RoLorry.From)*(r.on d).RoLorry.PerHour)+3599)).tdiv (3600:Int))))) [[AV.str (r.on d).RoLorry.Name,iN (r.on d).RoLorry.Lift,iN (r.on d).RoLorry.Room,iN (r.on d).RoLorry.From,iN (r.on d).RoLorry.Until,iN (r.on d).RoLorry.PerHour,.eptr d.cs (0:Nat),iN (r.on d).now,iN (r.on d).last,.slc 3 (List.map TRoStop.av (r.on d).stops),iN (r.on d).room,iN (r.on d).price,iN (r.on d).value]])
theorem zcI (d:TDepot) (r:TTour) (v O) (h:Fl d r (fun r O'=>r=v/\O'=O)):Sp 104 [.ref 0 0] [(r.on d).cs] v O :=
 zX ⟨[],[],[62],[],[]⟩ 0 ⟨[0,2,7],[],[],[]⟩ [⟨108,false,(r.on d).cs⟩] (by exact trivial) Tryz.func104 Tryz.call104 rfl rfl rfl (by kernel_rfl) h
theorem L5 (d:TDepot) (r:TTour) (hl:r.last<d.RoTask.Jobs.length):Sp 104 [.ref 0 0] [(r.on d).cs] (.int .i64 (NA d r)) [(r.on d).cs]:=zcI d r _ _ (by
 unfold Fl NA;refine⟨fun h=>⟨?_,by trivial⟩,fun h=>⟨_,c62 d r hl,?_,by trivial⟩⟩
 ·have h:r.last<0:=zt_ h;rw[if_pos h]
 ·have h:¬ r.last<0:=zf_ h;rw[if_neg h];rfl)
def R99 (s:List TRoStop) (Q:yc):Prop :=
 ((0:Int)<=(↑(List.map TRoStop.av s).length:Int)/\(↑(List.map TRoStop.av s).length:Int)=(↑(List.map TRoStop.av s).length:Int)/\(↑(List.map TRoStop.av s).length:Int)<=(↑(List.map TRoStop.av s).length:Int))/\Q (.slc 2 (List.take (↑(List.map TRoStop.av s).length:Int).toNat (List.map TRoStop.av s))) []
theorem s99 (s:List TRoStop) (v O) (h:R99 s (fun r O'=>r=v/\O'=O)):Sp 99 [.slc 3 (List.map TRoStop.av s)] [] v O :=
 zS ⟨[0,2],[],[],[]⟩ Tryz.func99 Tryz.call99 rfl (by kernel_rfl) h
theorem c99 (l:List TRoStop):Sp 99 [.slc 3 (l.map TRoStop.av)] [] (.slc 2 (l.map TRoStop.av)) []:=s99 l _ _ (by
 unfold R99;simp only[List.length_map];refine⟨⟨by omega,by trivial,Int.le_refl _⟩,?_,by trivial⟩;rw[Int.toNat_natCast,List.take_of_length_le (by simp)])
def UR (n:Int):Bool:=yz n 0 10000000
def zaL (n:Int) (Q:yc):Prop :=
 ∃b0,Sp 29 [iN n,iN 0,iN 10000000] [] (.bool b0) []/\Q (.bool b0) []
theorem zcO (n:Int) (v O) (h:zaL n (fun r O'=>r=v/\O'=O)):Sp 119 [iN n] [] v O :=
 zS ⟨[0,2],[],[],[]⟩ Tryz.func119 Tryz.call119 rfl (by kernel_rfl) h
theorem zbF (n:Int):Sp 119 [.int .i64 n] [] (.bool (UR n)) []:=zcO n _ _ ⟨_,c29 ..,rfl,rfl⟩
def Dm (s:List Int) (Q:yc):Prop :=
 ∃(I0:Nat->List AV->Prop),(∃m2,I0 m2 [iN 0])/\∀(m2:Nat) (n3:Int),I0 m2 [iN n3]->(decide (n3<(↑(List.map (AV.int i64) s).length:Int))=true->∃n7,((0:Int)<=n3/\(1:Nat)=(1:Nat)/\(List.map (AV.int i64) s)[n3.toNat]? = some (iN n7))/\∃b9,Sp 119 [iN n7] [] (.bool b9) []/\(b9=true->Q (iN n3) [])/\(b9=false->∃k13,k13<m2/\I0 k13 [iN (wrap i64 (n3+1))]))/\(decide (n3<(↑(List.map (AV.int i64) s).length:Int))=false->Q (iN (-1:Int)) [])
theorem zev (s:List Int) (v O) (h:Dm s (fun r O'=>r=v/\O'=O)):Sp 87 [.slc 3 (List.map (AV.int .i64) s),.fn 119 [] []] [] v O :=
 zX ⟨[],[],[119],[],[]⟩ 0 ⟨[0,1,4,5,7,8,9,16],[⟨2,[(8,iN 0)],[],[],[],[],[]⟩],[],[]⟩ [] (by exact trivial) Tryz.func87 Tryz.call87 rfl rfl rfl (by kernel_rfl) h
theorem zcq (s:List Int) (hl:s.length<=1000000):Sp 87 [.slc 3 (s.map (AV.int .i64)),.fn 119 [] []] [] (.int .i64 (yx UR 0 s)) []:=zev s _ _ (by
 unfold Dm;refine⟨fun m vs=>∃k:Nat,vs=[.int .i64 k]/\k<=s.length/\m=s.length-k/\yx UR k (s.drop k)=yx UR 0 s,⟨_,0,rfl,by omega,rfl,rfl⟩,?_⟩;rintro m n ⟨k,hk,hle,rfl,hn⟩;cases hk;simp only[List.length_map];refine⟨fun h3=>?_,fun h3=>⟨?_,by trivial⟩⟩
 ·have h3:k<s.length:=by have:=zt_ h3;omega
  obtain ⟨x,hx,hx'⟩:=yq (f:=(AV.int .i64)) h3;have hat:=qY (f:=UR) hx;refine⟨x,⟨by omega,by trivial,hx'⟩,_,zbF x,fun h4=>⟨?_,by trivial⟩,fun h4=>⟨_,?_,k+1,?_,by omega,rfl,?_⟩⟩
  ·rw[<- hn,hat,h4];rfl
  ·omega
  ·rw[yr (by omega)]
  ·rw[<- hn,hat,h4];rfl
 ·have:k=s.length:=by have:=zf_ h3;omega
  rw[<- hn,this,List.drop_length];rfl)
def zbv (s:List Int) (Q:yc):Prop :=
 ∃n0,Sp 87 [AV.slc 3 (List.map (AV.int i64) s),AV.fn (119:FuncId) [] []] [] (iN n0) []/\Q (.bool (decide (n0>=0))) []
theorem zeq (s:List Int) (v O) (h:zbv s (fun r O'=>r=v/\O'=O)):Sp 42 [.slc 3 (List.map (AV.int .i64) s),.fn 119 [] []] [] v O :=
 zX ⟨[],[],[87],[],[]⟩ 0 ⟨[0,1,4],[],[],[]⟩ [] (by exact trivial) Tryz.func42 Tryz.call42 rfl rfl rfl (by kernel_rfl) h
theorem zcl (s:List Int) (hl:s.length<=1000000):Sp 42 [.slc 3 (s.map (AV.int .i64)),.fn 119 [] []] [] (.bool (s.any UR)) []:=zeq s _ _ ⟨_,zcq s hl,by rw[jn],rfl⟩
def YF (n:Int):Bool:=yz n 0 1000000
def R94 (n:Int) (Q:yc):Prop :=
 ∃b0,Sp 29 [iN n,iN 0,iN 1000000] [] (.bool b0) []/\Q (.bool b0) []
theorem s94 (n:Int) (v O) (h:R94 n (fun r O'=>r=v/\O'=O)):Sp 94 [iN n] [] v O :=
 zS ⟨[0,2],[],[],[]⟩ Tryz.func94 Tryz.call94 rfl (by kernel_rfl) h
theorem c94 (n:Int):Sp 94 [.int .i64 n] [] (.bool (YF n)) []:=s94 n _ _ ⟨_,c29 ..,rfl,rfl⟩
def Dn (s:List Int) (Q:yc):Prop :=
 ∃(I0:Nat->List AV->Prop),(∃m2,I0 m2 [iN 0])/\∀(m2:Nat) (n3:Int),I0 m2 [iN n3]->(decide (n3<(↑(List.map (AV.int i64) s).length:Int))=true->∃n7,((0:Int)<=n3/\(1:Nat)=(1:Nat)/\(List.map (AV.int i64) s)[n3.toNat]? = some (iN n7))/\∃b9,Sp 94 [iN n7] [] (.bool b9) []/\(b9=true->Q (iN n3) [])/\(b9=false->∃k13,k13<m2/\I0 k13 [iN (wrap i64 (n3+1))]))/\(decide (n3<(↑(List.map (AV.int i64) s).length:Int))=false->Q (iN (-1:Int)) [])
theorem zew (s:List Int) (v O) (h:Dn s (fun r O'=>r=v/\O'=O)):Sp 87 [.slc 3 (List.map (AV.int .i64) s),.fn 94 [] []] [] v O :=
 zX ⟨[],[],[94],[],[]⟩ 0 ⟨[0,1,4,5,7,8,9,16],[⟨2,[(8,iN 0)],[],[],[],[],[]⟩],[],[]⟩ [] (by exact trivial) Tryz.func87 Tryz.call87 rfl rfl rfl (by kernel_rfl) h
theorem zcr (s:List Int) (hl:s.length<=1000000):Sp 87 [.slc 3 (s.map (AV.int .i64)),.fn 94 [] []] [] (.int .i64 (yx YF 0 s)) []:=zew s _ _ (by
 unfold Dn;refine⟨fun m vs=>∃k:Nat,vs=[.int .i64 k]/\k<=s.length/\m=s.length-k/\yx YF k (s.drop k)=yx YF 0 s,⟨_,0,rfl,by omega,rfl,rfl⟩,?_⟩;rintro m n ⟨k,hk,hle,rfl,hn⟩;cases hk;simp only[List.length_map];refine⟨fun h3=>?_,fun h3=>⟨?_,by trivial⟩⟩
 ·have h3:k<s.length:=by have:=zt_ h3;omega
  obtain ⟨x,hx,hx'⟩:=yq (f:=(AV.int .i64)) h3;have hat:=qY (f:=YF) hx;refine⟨x,⟨by omega,by trivial,hx'⟩,_,c94 x,fun h4=>⟨?_,by trivial⟩,fun h4=>⟨_,?_,k+1,?_,by omega,rfl,?_⟩⟩
  ·rw[<- hn,hat,h4];rfl
  ·omega
  ·rw[yr (by omega)]
  ·rw[<- hn,hat,h4];rfl
 ·have:k=s.length:=by have:=zf_ h3;omega
  rw[<- hn,this,List.drop_length];rfl)
def zbw (s:List Int) (Q:yc):Prop :=
 ∃n0,Sp 87 [AV.slc 3 (List.map (AV.int i64) s),AV.fn (94:FuncId) [] []] [] (iN n0) []/\Q (.bool (decide (n0>=0))) []
theorem zer (s:List Int) (v O) (h:zbw s (fun r O'=>r=v/\O'=O)):Sp 42 [.slc 3 (List.map (AV.int .i64) s),.fn 94 [] []] [] v O :=
 zX ⟨[],[],[87],[],[]⟩ 0 ⟨[0,1,4],[],[],[]⟩ [] (by exact trivial) Tryz.func42 Tryz.call42 rfl rfl rfl (by kernel_rfl) h
theorem zcm (s:List Int) (hl:s.length<=1000000):Sp 42 [.slc 3 (s.map (AV.int .i64)),.fn 94 [] []] [] (.bool (s.any YF)) []:=zer s _ _ ⟨_,zcr s hl,by rw[jn],rfl⟩
def LY (p:TRoProgramme) (x:TRoAsset):Int:=if yz x.Cost 0 1000000 then 7 else if yz x.Rate 0 1000 then 7 else if yz x.Harm 0 10000000 then 7 else if yz x.Last 0 p.First then 7 else 0
def jx (p:TRoProgramme) (_:Nat) (x:TRoAsset):Int:=LY p x
def Fs (x:TRoAsset) (v0:TRoProgramme) (Q:yc):Prop :=
 ∃b0,Sp 29 [iN x.Cost,iN 0,iN 1000000] [] (.bool b0) []/\(b0=true->Q (iN 7) [v0.cs])/\(b0=false->∃b4,Sp 29 [iN x.Rate,iN 0,iN 1000] [] (.bool b4) []/\(b4=true->Q (iN 7) [v0.cs])/\(b4=false->∃b8,Sp 29 [iN x.Harm,iN 0,iN 10000000] [] (.bool b8) []/\(b8=true->Q (iN 7) [v0.cs])/\(b8=false->∃b12,Sp 29 [iN x.Last,iN 0,iN v0.First] [] (.bool b12) []/\(b12=true->Q (iN 7) [v0.cs])/\(b12=false->Q (iN 0) [v0.cs]))))
theorem zcR (x:TRoAsset) (v0:TRoProgramme) (v O) (h:Fs x v0 (fun r O'=>r=v/\O'=O)):Sp 122 [x.av,.ref 0 0] [v0.cs] v O :=
 zX ⟨[],[],[],[],[]⟩ 0 ⟨[0,1,2,3,23],[],[],[]⟩ [⟨100,false,v0.cs⟩] (by exact trivial) Tryz.func122 Tryz.call122 rfl rfl rfl (by kernel_rfl) h
theorem zbH (k:Nat) (x:TRoAsset) (p:TRoProgramme):Sp 122 [x.av,.ref 0 0] [p.cs] (.int .i64 (jx p k x)) [p.cs]:=zcR x p _ _ (by
 unfold Fs jx LY;refine⟨_,c29 ..,fun h=>⟨?_,by trivial⟩,fun h1=>⟨_,c29 ..,fun h=>⟨?_,by trivial⟩,fun h2=>⟨_,c29 ..,fun h=>⟨?_,by trivial⟩,fun h3=>⟨_,c29 ..,fun h=>⟨?_,by trivial⟩,fun h4=>⟨?_,by trivial⟩⟩⟩⟩⟩
 ·rw[if_pos h]
 ·rw[if_neg (by rw[h1];simp),if_pos h]
 ·rw[if_neg (by rw[h1];simp),if_neg (by rw[h2];simp),if_pos h]
 ·rw[if_neg (by rw[h1];simp),if_neg (by rw[h2];simp),if_neg (by rw[h3];simp),if_pos h]
 ·rw[if_neg (by rw[h1];simp),if_neg (by rw[h2];simp),if_neg (by rw[h3];simp),if_neg (by rw[h4];simp)])
def zaM (x:TRoAsset) (Q:yc):Prop :=
 Q (.str x.Name) []
theorem zcQ (x:TRoAsset) (v O) (h:zaM x (fun r O'=>r=v/\O'=O)):Sp 121 [x.av] [] v O :=
 zS ⟨[0,1,2],[],[],[]⟩ Tryz.func121 Tryz.call121 rfl (by kernel_rfl) h
theorem Gb (x:TRoAsset):Sp 121 [x.av] [] (.str x.Name) []:=zcQ x _ _ ⟨rfl,rfl⟩
def zaQ (y v1:TRoAsset) (Q:yc):Prop :=
 ∃s0,Sp 121 [y.av] [] (.str s0) []/\∃s2,Sp 121 [v1.av] [] (.str s2) []/\Q (.bool (s0.toList == s2.toList)) [[AV.fn (121:FuncId) [] []],v1.cs]
theorem zcY (y v1:TRoAsset) (v O) (h:zaQ y v1 (fun r O'=>r=v/\O'=O)):Sp 134 [y.av,.ref 0 0,.ref 1 0] [[.fn 121 [] []],v1.cs] v O :=
 zX ⟨[],[],[],[],[]⟩ 0 ⟨[0,1,2,3,4],[],[],[]⟩ [⟨177,false,[.fn 121 [] []]⟩,⟨150,false,v1.cs⟩] (by exact trivial) Tryz.func134 Tryz.call134 rfl rfl rfl (by kernel_rfl) h
theorem zbL (x y:TRoAsset):Sp 134 [x.av,.ref 0 0,.ref 1 0] [[.fn 121 [] []],y.cs] (.bool (qG x.Name y.Name)) [[.fn 121 [] []],y.cs]:=zcY x y _ _ ⟨_,Gb x,_,Gb y,rfl,rfl⟩
def zaT (s:List TRoAsset) (f1:TRoAsset) (Q:yc):Prop :=
 ∃(I0:Nat->List AV->Prop),(∃m2,I0 m2 [iN 0])/\∀(m2:Nat) (n3:Int),I0 m2 [iN n3]->(decide (n3<(↑(List.map TRoAsset.av s).length:Int))=true->∃s7 n8 n9 n10 n11,((0:Int)<=n3/\(5:Nat)=(5:Nat)/\(List.map TRoAsset.av s)[n3.toNat]? = some (.agg [AV.str s7,iN n8,iN n9,iN n10,iN n11]))/\∃b13 s14 n15 n16 n17 n18,Sp 134 [AV.agg [AV.str s7,iN n8,iN n9,iN n10,iN n11],.ref 0 0,.ref 1 0] [[AV.fn (121:FuncId) [] []],f1.cs] (.bool b13) [[AV.fn (121:FuncId) [] []],[AV.str s14,iN n15,iN n16,iN n17,iN n18]]/\(b13=true->Q (iN n3) [[AV.fn (121:FuncId) [] []],[AV.str s14,iN n15,iN n16,iN n17,iN n18]])/\(b13=false->yd [AV.fn (121:FuncId) [] []]/\[AV.str s14,iN n15,iN n16,iN n17,iN n18]=f1.cs/\∃k24,k24<m2/\I0 k24 [iN (wrap i64 (n3+1))]))/\(decide (n3<(↑(List.map TRoAsset.av s).length:Int))=false->Q (iN (-1:Int)) [[AV.fn (121:FuncId) [] []],f1.cs])
theorem zc3 (s:List TRoAsset) (f1:TRoAsset) (v O) (h:zaT s f1 (fun r O'=>r=v/\O'=O)):Sp 150 [.slc 3 (List.map TRoAsset.av s),.fn 134 [] [.ref 0 0,.ref 1 0]] [[.fn 121 [] []],f1.cs] v O :=
 zX ⟨[],[],[],[],[]⟩ 0 ⟨[0,1,4,5,7,8,9,16],[⟨2,[(8,iN 0)],[],[],[],[],[]⟩],[],[]⟩ [⟨177,false,[.fn 121 [] []]⟩,⟨150,false,f1.cs⟩] (by exact trivial) Tryz.func150 Tryz.call150 rfl rfl rfl (by kernel_rfl) h
theorem zbO (s:List TRoAsset) (y:TRoAsset) (hl:s.length<=1000000):Sp 150 [.slc 3 (List.map TRoAsset.av s),.fn 134 [] [.ref 0 0,.ref 1 0]] [[.fn 121 [] []],y.cs] (.int .i64 (yx (fun x=>qG x.Name y.Name) 0 s)) [[.fn 121 [] []],y.cs]:=zc3 s y _ _ (by
 refine⟨fun m vs=>∃n:Nat,vs=[.int .i64 n]/\n<=s.length/\m=s.length-n/\yx (fun x=>qG x.Name y.Name) n (s.drop n)=yx (fun x=>qG x.Name y.Name) 0 s,⟨_,0,rfl,by omega,rfl,rfl⟩,?_⟩;rintro m n ⟨k,hk,hle,rfl,hn⟩;cases hk;refine⟨fun h3=>?_,fun h3=>⟨?_,rfl⟩⟩
 ·have h3:k<s.length:=by simpa using h3
  obtain ⟨x,hx,hx'⟩:=yq (f:=TRoAsset.av) h3;have hat:=qY (f:=(fun x=>qG x.Name y.Name)) hx;refine⟨x.Name,x.Cost,x.Rate,x.Harm,x.Last,⟨by omega,rfl,hx'⟩,_,y.Name,y.Cost,y.Rate,y.Harm,y.Last,zbL x y,fun h4=>⟨?_,rfl⟩,fun h4=>⟨rfl,rfl,_,?_,k+1,?_,by omega,rfl,?_⟩⟩
  ·rw[<- hn,hat,h4];rfl
  ·omega
  ·rw[yr (by omega)]
  ·rw[<- hn,hat,h4];rfl
 ·have:k=s.length:=by simp at h3;omega
  rw[<- hn,this,List.drop_length];rfl)
def zaP (s:List TRoAsset) (f1:TRoAsset) (Q:yc):Prop :=
 ∃n0 s1 n2 n3 n4 n5,Sp 150 [AV.slc 3 (List.map TRoAsset.av s),AV.fn (134:FuncId) [] [AV.ref 0 0,.ref 1 0]] [[AV.fn (121:FuncId) [] []],f1.cs] (iN n0) [[AV.fn (121:FuncId) [] []],[AV.str s1,iN n2,iN n3,iN n4,iN n5]]/\Q (.bool (decide (n0>=0))) [[AV.fn (121:FuncId) [] []],[AV.str s1,iN n2,iN n3,iN n4,iN n5]]
theorem zcX (s:List TRoAsset) (f1:TRoAsset) (v O) (h:zaP s f1 (fun r O'=>r=v/\O'=O)):Sp 133 [.slc 3 (List.map TRoAsset.av s),.fn 134 [] [.ref 0 0,.ref 1 0]] [[.fn 121 [] []],f1.cs] v O :=
 zX ⟨[],[],[],[],[]⟩ 0 ⟨[0,1,4],[],[],[]⟩ [⟨177,false,[.fn 121 [] []]⟩,⟨150,false,f1.cs⟩] (by exact trivial) Tryz.func133 Tryz.call133 rfl rfl rfl (by kernel_rfl) h
theorem zbK (s:List TRoAsset) (y:TRoAsset) (hl:s.length<=1000000):Sp 133 [.slc 3 (List.map TRoAsset.av s),.fn 134 [] [.ref 0 0,.ref 1 0]] [[.fn 121 [] []],y.cs] (.bool (s.any (fun x=>qG x.Name y.Name))) [[.fn 121 [] []],y.cs]:=zcX s y _ _ (by
 refine⟨_,y.Name,y.Cost,y.Rate,y.Harm,y.Last,zbO s y hl,?_,rfl⟩;rw[jn])
def Fq (l:List TRoAsset) (rest0:TRoProgramme) (Q:yc):Prop :=
 ∃(I0:Nat->List AV->Prop),(∃m2,I0 m2 [iN 0,rest0.av])/\∀(m2:Nat) (n3:Int) (es4 es5:List AV) (n6 n7:Int),I0 m2 [iN n3,.agg [AV.slc 3 es4,.slc 3 es5,iN n6,iN n7]]->(decide (n3<(↑(List.map TRoAsset.av l).length:Int))=true->∃s11 n12 n13 n14 n15,((0:Int)<=n3/\(5:Nat)=(5:Nat)/\(List.map TRoAsset.av l)[n3.toNat]? = some (.agg [AV.str s11,iN n12,iN n13,iN n14,iN n15]))/\∃n17,Sp 122 [AV.agg [AV.str s11,iN n12,iN n13,iN n14,iN n15],.ref 0 0] [[AV.slc 3 es4,.slc 3 es5,iN n6,iN n7]] (iN n17) [[AV.slc 3 es4,.slc 3 es5,iN n6,iN n7]]/\∃s19,Sp 121 [AV.agg [AV.str s11,iN n12,iN n13,iN n14,iN n15]] [] (.str s19) []/\∃b21,Sp 82 [AV.str s19] [] (.bool b21) []/\((!b21)=true->Q (.tup [iN n3,iN 6]) [[AV.slc 3 es4,.slc 3 es5,iN n6,iN n7]])/\((!b21)=false->((0:Int)<=n3/\n3<=(↑(List.map TRoAsset.av l).length:Int))/\∃b26,Sp 133 [AV.slc 3 (List.take n3.toNat (List.map TRoAsset.av l)),AV.fn (134:Nat) [] [AV.ref 0 0,.ref 1 0]] [[AV.fn (121:FuncId) [] []],[AV.str s11,iN n12,iN n13,iN n14,iN n15]] (.bool b26) [[AV.fn (121:FuncId) [] []],[AV.str s11,iN n12,iN n13,iN n14,iN n15]]/\(b26=true->Q (.tup [iN n3,iN 5]) [[AV.slc 3 es4,.slc 3 es5,iN n6,iN n7]])/\(b26=false->((n17 != 0)=true->Q (.tup [iN n3,iN n17]) [[AV.slc 3 es4,.slc 3 es5,iN n6,iN n7]])/\((n17 != 0)=false->yd [AV.fn (121:FuncId) [] []]/\∃k33,k33<m2/\I0 k33 [iN (wrap i64 (n3+1)),.agg [AV.slc 3 es4,.slc 3 es5,iN n6,iN n7]]))))/\(decide (n3<(↑(List.map TRoAsset.av l).length:Int))=false->Q (.tup TEncl.zero.cs) [[AV.slc 3 es4,.slc 3 es5,iN n6,iN n7]])
theorem zcP (l:List TRoAsset) (rest0:TRoProgramme) (v O) (h:Fq l rest0 (fun r O'=>r=v/\O'=O)):Sp 120 [.slc 3 (List.map TRoAsset.av l),.fn 121 [] [],.fn 122 [] [.ref 0 0]] [rest0.cs] v O :=
 zX ⟨[],[],[133,134,122],[],[]⟩ 0 ⟨[0,1,2,4,6,7,8,9,10,11,12,13,14,21,27,34],[⟨2,[(13,iN 0)],[],[(1000000,.agg [.slc 3 [],.slc 3 [],iN 0,iN 0])],[],[],[]⟩],[],[]⟩ [⟨100,false,rest0.cs⟩] (by exact trivial) Tryz.func120 Tryz.call120 rfl rfl rfl (by kernel_rfl) h
theorem zbG (l:List TRoAsset) (hl:l.length<=1000) (hnm:∀x∈l,x.Name.size<=9223372036854775807) (p:TRoProgramme):Sp 120 [.slc 3 (List.map TRoAsset.av l),.fn 121 [] [],.fn 122 [] [.ref 0 0]] [p.cs] (.tup [.int .i64 (yO (yE TRoAsset.Name (jx p) l) l.length 0).1,.int .i64 (yO (yE TRoAsset.Name (jx p) l) l.length 0).2]) [p.cs]:=zcP l p _ _ (by
 unfold Fq;refine⟨fun m vs=>∃n:Nat,vs=[.int .i64 n,p.av]/\n<=l.length/\m=l.length-n/\yO (yE TRoAsset.Name (jx p) l) (l.length-n) n=yO (yE TRoAsset.Name (jx p) l) l.length 0,⟨_,0,rfl,by omega,rfl,rfl⟩,?_⟩;intro m;intros;rename_i hJ;obtain ⟨k,hk,hle,rfl,hn⟩:=hJ;unfold TRoProgramme.av TRoProgramme.cs at hk;cases hk;refine⟨fun h3=>?_,fun h3=>⟨?_,by trivial⟩⟩
 ·have h3:k<l.length:=by simpa using h3
  obtain ⟨x,hx,hx'⟩:=yq (f:=TRoAsset.av) h3;have hat:=kM (nm:=TRoAsset.Name) (rest:=(jx p)) hx;have hf:=vb (e:=yE TRoAsset.Name (jx p) l) h3;have hmem:x∈l:=List.mem_of_getElem? hx;have htake:List.take (k:Int).toNat (List.map TRoAsset.av l)=List.map TRoAsset.av (l.take k):=by rw[Int.toNat_natCast,List.map_take]
  refine⟨x.Name,x.Cost,x.Rate,x.Harm,x.Last,⟨by omega,rfl,hx'⟩,_,zbH k x p,_,Gb x,_,c82 _ (hnm x hmem),fun h4=>⟨?_,by trivial⟩,fun h4=>⟨⟨by omega,by simp;omega⟩,((l.take k).any fun z=>qG z.Name x.Name),(by rw[htake];exact zbK (l.take k) x (by rw[List.length_take];omega)),fun h5=>⟨?_,by trivial⟩,fun h5=>⟨fun h6=>⟨?_,by trivial⟩,fun h6=>⟨by trivial,_,(by omega:l.length-(k+1)<l.length-k),k+1,?_,by omega,rfl,?_⟩⟩⟩⟩
  ·have he:yE TRoAsset.Name (jx p) l k=6:=by rw[hat,if_pos h4]
   rw[<- hn,hf,he];rfl
  ·have h4':¬ (!jO x.Name)=true:=by rw[h4];simp
   have he:yE TRoAsset.Name (jx p) l k=5:=by rw[hat,if_neg h4',if_pos h5]
   rw[<- hn,hf,he];rfl
  ·have h4':¬ (!jO x.Name)=true:=by rw[h4];simp
   have h5':¬ ((l.take k).any fun z=>qG z.Name x.Name)=true:=by rw[h5];simp
   have he:yE TRoAsset.Name (jx p) l k=(jx p) k x:=by rw[hat,if_neg h4',if_neg h5']
   have h6:(jx p) k x≠0:=by simpa using h6
   rw[<- hn,hf,he,if_pos h6]
  ·rw[yr (by omega)]<;>rfl
  ·have h4':¬ (!jO x.Name)=true:=by rw[h4];simp
   have h5':¬ ((l.take k).any fun z=>qG z.Name x.Name)=true:=by rw[h5];simp
   have he:yE TRoAsset.Name (jx p) l k=(jx p) k x:=by rw[hat,if_neg h4',if_neg h5']
   have h6:(jx p) k x=0:=by simpa using h6
   rw[<- hn,hf,he,if_neg (by simp[h6])]
 ·have:k=l.length:=by simp at h3;omega
  rw[<- hn,this,Nat.sub_self];rfl)
def UN (p:TRoProgramme):Int × Int :=
 if p.Assets.length>6 then (-1,3) else if p.Budgets.length>3 then (-1,3) else if yz p.First 0 40000 then (-1,7) else if yz p.Days 1 4000 then (-1,7) else if p.Budgets.any UR then (-1,7) else yO (yE TRoAsset.Name (jx p) p.Assets) p.Assets.length 0
def PT (p:TRoProgramme):Prop:=∀x∈p.Assets,x.Name.size<=9223372036854775807
def R93 (p:TRoProgramme) (Q:yc):Prop :=
 (decide ((↑(List.map TRoAsset.av p.Assets).length:Int)>(6:Int))=true->Q (.tup [iN (-1:Int),iN 3]) [])/\(decide ((↑(List.map TRoAsset.av p.Assets).length:Int)>(6:Int))=false->(decide ((↑(List.map (AV.int i64) p.Budgets).length:Int)>(3:Int))=true->Q (.tup [iN (-1:Int),iN 3]) [])/\(decide ((↑(List.map (AV.int i64) p.Budgets).length:Int)>(3:Int))=false->∃b4,Sp 29 [iN p.First,iN 0,iN 40000] [] (.bool b4) []/\(b4=true->Q (.tup [iN (-1:Int),iN 7]) [])/\(b4=false->∃b8,Sp 29 [iN p.Days,iN 1,iN 4000] [] (.bool b8) []/\(b8=true->Q (.tup [iN (-1:Int),iN 7]) [])/\(b8=false->∃b12,Sp 42 [AV.slc 3 (List.map (AV.int i64) p.Budgets),AV.fn (119:Nat) [] []] [] (.bool b12) []/\(b12=true->Q (.tup [iN (-1:Int),iN 7]) [])/\(b12=false->∃n16 n17 es18 es19 n20 n21,Sp 120 [AV.slc 3 (List.map TRoAsset.av p.Assets),AV.fn (121:Nat) [] [],AV.fn (122:Nat) [] [AV.ref 0 0]] [p.cs] (.tup [iN n16,iN n17]) [[AV.slc 3 es18,.slc 3 es19,iN n20,iN n21]]/\Q (.tup [iN n16,iN n17]) [])))))
theorem s93 (p:TRoProgramme) (v O) (h:R93 p (fun r O'=>r=v/\O'=O)):Sp 93 [p.av] [] v O :=
 zX ⟨[],[],[42],[],[]⟩ 0 ⟨[0,1,2,3,4,5,16],[],[],[]⟩ [] (by exact trivial) Tryz.func93 Tryz.call93 rfl rfl rfl (by kernel_rfl) h
theorem c93 (p:TRoProgramme) (hp:PT p):Sp 93 [p.av] [] (.tup [.int .i64 (UN p).1,.int .i64 (UN p).2]) []:=s93 p _ _ (by
 unfold R93 UN;simp only[List.length_map];refine⟨fun h=>⟨by rw[if_pos (by have:=zt_ h;omega)],by trivial⟩,fun h1=>?_⟩;have h1:¬ p.Assets.length>6:=by have:=zf_ h1;omega
 rw[if_neg h1];refine⟨fun h=>⟨by rw[if_pos (by have:=zt_ h;omega)],by trivial⟩,fun h2=>?_⟩;have h2:¬ p.Budgets.length>3:=by have:=zf_ h2;omega
 rw[if_neg h2];refine⟨_,c29 ..,fun h=>⟨by rw[if_pos h],by trivial⟩,fun h3=>?_⟩;rw[if_neg (by rw[h3];simp)];refine⟨_,c29 ..,fun h=>⟨by rw[if_pos h],by trivial⟩,fun h4=>?_⟩;rw[if_neg (by rw[h4];simp)];refine⟨_,zcl p.Budgets (by omega),fun h=>⟨by rw[if_pos h],by trivial⟩,fun h5=>?_⟩;rw[if_neg (by rw[h5];simp)];exact⟨_,_,_,_,_,_,zbG p.Assets (by omega) hp p,rfl,by trivial⟩)
def Dw (nb period days first last rate harm:Int):Int:=wrap i64 ((wrap i64 (wrap i64 (wrap i64 (wrap i64 (nb-period)*days)*wrap i64 (wrap i64 (first+wrap i64 (period*days))-last))*wrap i64 (rate*harm))).tdiv 1000000000)
def J5 (p:TRoProgramme) (x:TRoAsset) (period:Int):Int:=Dw p.Budgets.length period p.Days p.First x.Last x.Rate x.Harm
def R95 (p:TRoProgramme) (x:TRoAsset) (period:Int) (Q:yc):Prop :=
 Q (iN (wrap i64 ((wrap i64 (wrap i64 (wrap i64 (wrap i64 ((↑(List.map (AV.int i64) p.Budgets).length:Int)-period)*p.Days)*wrap i64 (wrap i64 (p.First+wrap i64 (period*p.Days))-x.Last))*wrap i64 (x.Rate*x.Harm))).tdiv (1000000000:Int)))) []
theorem s95 (p:TRoProgramme) (x:TRoAsset) (period:Int) (v O) (h:R95 p x period (fun r O'=>r=v/\O'=O)):Sp 95 [p.av,x.av,iN period] [] v O :=
 zS ⟨[0,1,2,3,4,6,7,8],[],[],[]⟩ Tryz.func95 Tryz.call95 rfl (by kernel_rfl) h
theorem c95 (p:TRoProgramme) (x:TRoAsset) (period:Int):Sp 95 [p.av,x.av,.int .i64 period] [] (.int .i64 (J5 p x period)) []:=s95 p x period _ _ (by
 unfold R95 J5 Dw;rw[List.length_map];exact⟨rfl,by trivial⟩)
theorem Ji {p:TRoProgramme} (h:(UN p).2=0):p.Assets.length<=6/\p.Budgets.length<=3:=by
 unfold UN at h;by_cases h0:p.Assets.length>6
 ·rw[if_pos h0] at h;exact absurd h (by simp)
 rw[if_neg h0] at h;by_cases h1:p.Budgets.length>3
 ·rw[if_pos h1] at h;exact absurd h (by simp)
 omega
theorem zcD {n lo hi:Int}:yz n lo hi=false↔lo<=n/\n<=hi:=by
 unfold yz;rw[Bool.or_eq_false_iff,decide_eq_false_iff_not,decide_eq_false_iff_not];omega
def Qf:List Int->List Int->Int->Int
 |n::r,b::s,a=>Qf r s (wrap i64 (a+wrap i64 (n*b)))
 |[],_,a=>a
 |_::_,[],a=>a
def Wk (p:TRoProgramme) (x:TRoAsset):List Int->Nat->Int->Int
 |[],_,a=>a
 |n::r,i,a=>Wk p x r (i+1) (xr a (wrap i64 (wrap i64 (1000*J5 p x i)-wrap i64 (n*x.Cost))))
def P2 (p:TRoProgramme) (prices:List Int):List TRoAsset->Int->Int
 |[],a=>a
 |x::r,a=>P2 p prices r (wrap i64 (a+Wk p x prices 0 0))
theorem Hj {P B:List Int} {k:Nat} {n b:Int} (hn:P[k]? = some n) (hb:B[k]? = some b) (a:Int):Qf (P.drop k) (B.drop k) a=Qf (P.drop (k+1)) (B.drop (k+1)) (wrap i64 (a+wrap i64 (n*b))):=by
 obtain ⟨h1,rfl⟩:=List.getElem?_eq_some_iff.1 hn;obtain ⟨h2,rfl⟩:=List.getElem?_eq_some_iff.1 hb;rw[List.drop_eq_getElem_cons h1,List.drop_eq_getElem_cons h2];rfl
theorem K4 {p:TRoProgramme} {x:TRoAsset} {P:List Int} {k:Nat} {n:Int} (hn:P[k]? = some n) (a:Int):Wk p x (P.drop k) k a=Wk p x (P.drop (k+1)) (k+1) (xr a (wrap i64 (wrap i64 (1000*J5 p x k)-wrap i64 (n*x.Cost)))):=by
 obtain ⟨h1,rfl⟩:=List.getElem?_eq_some_iff.1 hn;rw[List.drop_eq_getElem_cons h1];rfl
theorem J1 {p:TRoProgramme} {Q:List Int} {L:List TRoAsset} {k:Nat} {x:TRoAsset} (hn:L[k]? = some x) (a:Int):P2 p Q (L.drop k) a=P2 p Q (L.drop (k+1)) (wrap i64 (a+Wk p x Q 0 0)):=by
 obtain ⟨h1,rfl⟩:=List.getElem?_eq_some_iff.1 hn;rw[List.drop_eq_getElem_cons h1];rfl
def SB (p:TRoProgramme) (prices:List Int):Int × Int :=
 if (UN p).2≠0 then (0,(UN p).2) else if prices.length≠p.Budgets.length then (0,2) else if prices.any YF then (0,7) else (wrap i64 ((P2 p prices p.Assets (Qf prices p.Budgets 0)).tdiv 1000),0)
def R55 (p:TRoProgramme) (prices:List Int) (Q:yc):Prop :=
 ∃n0 n1,Sp 93 [p.av] [] (.tup [iN n0,iN n1]) []/\((n1 != 0)=true->Q (.tup [iN 0,iN n1]) [])/\((n1 != 0)=false->(((↑(List.map (AV.int i64) prices).length:Int) != (↑(List.map (AV.int i64) p.Budgets).length:Int))=true->Q (.tup [iN 0,iN 2]) [])/\(((↑(List.map (AV.int i64) prices).length:Int) != (↑(List.map (AV.int i64) p.Budgets).length:Int))=false->∃b7,Sp 42 [AV.slc 3 (List.map (AV.int i64) prices),AV.fn (94:Nat) [] []] [] (.bool b7) []/\(b7=true->Q (.tup [iN 0,iN 7]) [])/\(b7=false->∃(I11:Nat->List AV->Prop),(∃m13,I11 m13 TEncl.zero.cs)/\∀(m13:Nat) (n14 n15:Int),I11 m13 [iN n14,iN n15]->(decide (n15<(↑(List.map (AV.int i64) prices).length:Int))=true->∃n19,((0:Int)<=n15/\(1:Nat)=(1:Nat)/\(List.map (AV.int i64) prices)[n15.toNat]? = some (iN n19))/\∃n21,((0:Int)<=n15/\(1:Nat)=(1:Nat)/\(List.map (AV.int i64) p.Budgets)[n15.toNat]? = some (iN n21))/\p.cs=p.cs/\∃k24,k24<m13/\I11 k24 [iN (wrap i64 (n14+wrap i64 (n19*n21))),iN (wrap i64 (n15+1))])/\(decide (n15<(↑(List.map (AV.int i64) prices).length:Int))=false->∃(I19:Nat->List AV->Prop),(∃m21,I19 m21 [iN n14,iN 0])/\∀(m21:Nat) (n22 n23:Int),I19 m21 [iN n22,iN n23]->(decide (n23<(↑(List.map TRoAsset.av p.Assets).length:Int))=true->∃s27 n28 n29 n30 n31,((0:Int)<=n23/\(5:Nat)=(5:Nat)/\(List.map TRoAsset.av p.Assets)[n23.toNat]? = some (.agg [AV.str s27,iN n28,iN n29,iN n30,iN n31]))/\∃(I33:Nat->List AV->Prop),(∃m35,I33 m35 TEncl.zero.cs)/\∀(m35:Nat) (n36 n37:Int),I33 m35 [iN n36,iN n37]->(decide (n37<(↑(List.map (AV.int i64) prices).length:Int))=true->∃n41,((0:Int)<=n37/\(1:Nat)=(1:Nat)/\(List.map (AV.int i64) prices)[n37.toNat]? = some (iN n41))/\∃n43,Sp 95 [p.av,.agg [AV.str s27,iN n28,iN n29,iN n30,iN n31],iN n37] [] (iN n43) []/\p.cs=p.cs/\yd [AV.str s27,iN n28,iN n29,iN n30,iN n31]/\∃k47,k47<m35/\I33 k47 [iN (if IntKind.i64.wrap (wrap i64 ((1000:Int)*n43)-wrap i64 (n41*n28))>n36 then wrap i64 (wrap i64 ((1000:Int)*n43)-wrap i64 (n41*n28)) else n36),iN (wrap i64 (n37+1))])/\(decide (n37<(↑(List.map (AV.int i64) prices).length:Int))=false->p.cs=p.cs/\∃k42,k42<m21/\I19 k42 [iN (wrap i64 (n22+n36)),iN (wrap i64 (n23+1))]))/\(decide (n23<(↑(List.map TRoAsset.av p.Assets).length:Int))=false->Q (.tup [iN (wrap i64 (n22.tdiv (1000:Int))),iN 0]) [])))))
theorem s55 (p:TRoProgramme) (prices:List Int) (v O) (h:R55 p prices (fun r O'=>r=v/\O'=O)):Sp 55 [p.av,.slc 3 (List.map (AV.int .i64) prices)] [] v O :=
 zX ⟨[],[],[42],[],[]⟩ 0 ⟨[0,1,2,4,5,7,8,9,10,12,13,14,15,21,25,32,35,36,37,38,53,54,55,56,59,60,61,62],[⟨10,[(8,iN 0),(37,iN 0)],[],[],[],[],[]⟩,⟨15,[(8,iN 0),(55,iN 0)],[],[],[],[],[]⟩,⟨19,[(13,iN 0),(61,iN 0)],[],[],[],[],[]⟩],[],[]⟩ [] (by exact trivial) Tryz.func55 Tryz.call55 rfl rfl rfl (by kernel_rfl) h
theorem c55 (p:TRoProgramme) (hp:PT p) (prices:List Int):Sp 55 [p.av,.slc 3 (prices.map (AV.int .i64))] [] (.tup [.int .i64 (SB p prices).1,.int .i64 (SB p prices).2]) []:=s55 p prices _ _ (by
 unfold R55 SB;simp only[List.length_map];refine⟨_,_,c93 p hp,fun h=>⟨by rw[if_pos (by simpa using h)],by trivial⟩,fun h=>?_⟩;rw[if_neg (by simpa using h)];obtain ⟨l1,l2⟩:=Ji (p:=p) (by simpa using h);have hd:((prices.length:Int) != (p.Budgets.length:Int))=decide (prices.length≠p.Budgets.length):=by rw[Bool.eq_iff_iff];simp;omega
 rw[hd];refine⟨fun h=>⟨by rw[if_pos (zt_ h)],by trivial⟩,fun h1=>?_⟩;have h1:=zf_ h1;rw[if_neg h1];have h1:prices.length=p.Budgets.length:=Decidable.not_not.1 h1;refine⟨_,zcm prices (by omega),fun h=>⟨by rw[if_pos h],by trivial⟩,fun h2=>?_⟩;rw[if_neg (by rw[h2];simp)];refine⟨fun m vs=>∃(k:Nat) (a:Int),vs=[.int .i64 a,.int .i64 k]/\k<=prices.length/\m=prices.length-k/\Qf (prices.drop k) (p.Budgets.drop k) a=Qf prices p.Budgets 0,⟨_,0,0,rfl,by omega,rfl,rfl⟩,?_⟩;rintro m n14 n15 ⟨k,a,hk,hle,rfl,hs⟩;cases hk;refine⟨fun h3=>?_,fun h3=>?_⟩
 ·have h3:k<prices.length:=by have:=zt_ h3;omega
  obtain ⟨n,hn,hn'⟩:=yq (f:=AV.int .i64) h3;obtain ⟨b,hb,hb'⟩:=yq (f:=AV.int .i64) (l:=p.Budgets) (k:=k) (by omega);exact⟨_,⟨by omega,by trivial,hn'⟩,_,⟨by omega,by trivial,hb'⟩,by trivial,_,(by omega:prices.length-(k+1)<prices.length-k),k+1,_,by rw[yr (by omega)],by omega,rfl,by rw[<- hs,Hj hn hb]⟩
 ·have h3:k=prices.length:=by have:=zf_ h3;omega
  subst h3;have hs:n14=Qf prices p.Budgets 0:=by rw[<- hs,List.drop_length];rfl
  subst hs;refine⟨fun m vs=>∃(k:Nat) (a:Int),vs=[.int .i64 a,.int .i64 k]/\k<=p.Assets.length/\m=p.Assets.length-k/\P2 p prices (p.Assets.drop k) a=P2 p prices p.Assets (Qf prices p.Budgets 0),⟨_,0,_,rfl,by omega,rfl,rfl⟩,?_⟩;rintro m n22 n23 ⟨k,a,hk,hle,rfl,hs⟩;cases hk;refine⟨fun h3=>?_,fun h3=>?_⟩
  ·have h3:k<p.Assets.length:=by have:=zt_ h3;omega
   obtain ⟨x,hx,hx'⟩:=yq (f:=TRoAsset.av) h3;refine⟨_,_,_,_,_,⟨by omega,by trivial,hx'⟩,?_⟩;refine⟨fun m vs=>∃(j:Nat) (a:Int),vs=[.int .i64 a,.int .i64 j]/\j<=prices.length/\m=prices.length-j/\Wk p x (prices.drop j) j a=Wk p x prices 0 0,⟨_,0,0,rfl,by omega,rfl,rfl⟩,?_⟩;rintro m n36 n37 ⟨j,a',hj,hjl,rfl,hs'⟩;cases hj;refine⟨fun h4=>?_,fun h4=>?_⟩
   ·have h4:j<prices.length:=by have:=zt_ h4;omega
    obtain ⟨n,hn,hn'⟩:=yq (f:=AV.int .i64) h4;exact⟨_,⟨by omega,by trivial,hn'⟩,_,c95 p x (j:Int),by trivial,by trivial,_,(by omega:prices.length-(j+1)<prices.length-j),j+1,_,by rw[yr (by omega)],by omega,rfl,by rw[<- hs',K4 hn];rfl⟩
   ·have h4:j=prices.length:=by have:=zf_ h4;omega
    subst h4;have hs':n36=Wk p x prices 0 0:=by rw[<- hs',List.drop_length];rfl
    subst hs';exact⟨by trivial,_,(by omega:p.Assets.length-(k+1)<p.Assets.length-k),k+1,_,by rw[yr (by omega)],by omega,rfl,by rw[<- hs,J1 hx]⟩
  ·have h3:k=p.Assets.length:=by have:=zf_ h3;omega
   subst h3;have hs:n22=P2 p prices p.Assets (Qf prices p.Budgets 0):=by rw[<- hs,List.drop_length];rfl
   rw[hs];exact⟨rfl,by trivial⟩)
end Go.Proofs.YtkojpnkknehhmaaGreatDoor

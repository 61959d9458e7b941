/- Contracts: depots and tours: small functions. -/
import Derived.Test.YtdeeekgohhkdbaaGreatDoorRb
namespace Go.Proofs.YtdeeekgohhkdbaaGreatDoor
open Go.IntKind (wrap i64 u64)
open Go.RowKit
def Qv (a b:Int):Int:=if b>a then b else a
def LG (a b:Int):Int:=if b<a then b else a
def yP (a b:TRoSpan):TRoSpan:=if Qv a.From b.From>LG a.Until b.Until then ⟨1,0⟩ else ⟨Qv a.From b.From,LG a.Until b.Until⟩
def R98 (a b:TRoSpan) (_S:SpecF) (_Fr:FreshF) (_Sq:SeqF) (Q:ym):Prop :=
 (decide ((if true=true then if b.From>a.From then b.From else a.From else if b.From<a.From then b.From else a.From)>if false=true then if b.Until>a.Until then b.Until else a.Until else if b.Until<a.Until then b.Until else a.Until)=true->Q (.agg [iN 1,iN 0]) [])/\(decide ((if true=true then if b.From>a.From then b.From else a.From else if b.From<a.From then b.From else a.From)>if false=true then if b.Until>a.Until then b.Until else a.Until else if b.Until<a.Until then b.Until else a.Until)=false->Q (.agg [iN (if b.From>a.From then b.From else a.From),iN (if b.Until<a.Until then b.Until else a.Until)]) [])
theorem s98 (a:TRoSpan) (b:TRoSpan) (v:AV) (O:List (List AV)) (h:R98 a b Sp Fo So (fun r O'=>r=v/\O'=O)):Sp 98 [a.av,b.av] [] v O :=
 yj (w:=⟨[],[],[],[],[]⟩) (k:=0) (keep:=⟨[0,1,2,3,4,20],[],[],[]⟩) (boxes:=[]) mixed (by exact trivial) Tryz.func98 Tryz.call98 rfl rfl rfl (Nat.le_of_ble_eq_true rfl) (by kernel_rfl) h
theorem c98 (a b:TRoSpan):Sp 98 [a.av,b.av] [] (yP a b).av []:=s98 a b _ _ (by
 unfold R98;refine⟨fun h=>⟨?_,by trivial⟩,fun h=>⟨?_,by trivial⟩⟩
 ·have h:Qv a.From b.From>LG a.Until b.Until:=zt_ h;unfold yP;rw[if_pos h];rfl
 ·have h:¬ Qv a.From b.From>LG a.Until b.Until:=zf_ h;unfold yP;rw[if_neg h];rfl)
def qd (t:TRoTask) (k:Int):TRoJob:=t.Jobs.getD k.toNat TRoJob.zero
theorem u7 {t:TRoTask} {k:Int} (h0:0<=k) (h:k<t.Jobs.length):(t.Jobs.map TRoJob.av)[k.toNat]? = some (qd t k).av/\qd t k∈t.Jobs:=by
 have hl:k.toNat<t.Jobs.length:=by omega
 unfold qd;rw[List.getElem?_map,List.getD_eq_getElem?_getD,List.getElem?_eq_getElem hl];exact⟨rfl,List.getElem_mem hl⟩
def Sv (t:TRoTask) (k:Int):TRoLorry:=t.Lorries.getD k.toNat TRoLorry.zero
theorem Hs {t:TRoTask} {k:Int} (h0:0<=k) (h:k<t.Lorries.length):(t.Lorries.map TRoLorry.av)[k.toNat]? = some (Sv t k).av/\Sv t k∈t.Lorries:=by
 have hl:k.toNat<t.Lorries.length:=by omega
 unfold Sv;rw[List.getElem?_map,List.getD_eq_getElem?_getD,List.getElem?_eq_getElem hl];exact⟨rfl,List.getElem_mem hl⟩
def xL (d:TDepot) (k:Int):TRoSpan:=d.spans.getD k.toNat TRoSpan.zero
theorem Oe {d:TDepot} {k:Int} (h0:0<=k) (h:k<d.spans.length):(d.spans.map TRoSpan.av)[k.toNat]? = some (xL d k).av:=by
 have hl:k.toNat<d.spans.length:=by omega
 unfold xL;rw[List.getElem?_map,List.getD_eq_getElem?_getD,List.getElem?_eq_getElem hl];rfl
def atX (t:TRoTask) (k:Int):Int:=if k>=0 then (qd t k).X else t.X
def atY (t:TRoTask) (k:Int):Int:=if k>=0 then (qd t k).Y else t.Y
def zdb (x y u v p:Int):Int:=wrap i64 ((wrap i64 (wrap i64 (wrap i64 (wrap i64 (wrap i64 (Qv x u-LG x u)+Qv y v)-LG y v)*p)+999)).tdiv 1000)
def Tm (t:TRoTask) (k n:Int):Int:=zdb (atX t k) (atY t k) (atX t n) (atY t n) t.Pace
theorem Xc {t:TRoTask} {k:Int} (h:k>=0):atX t k=(qd t k).X:=if_pos h
theorem Xe {t:TRoTask} {k:Int} (h:k>=0):atY t k=(qd t k).Y:=if_pos h
theorem Xb {t:TRoTask} {k:Int} (h:¬ k>=0):atX t k=t.X:=if_neg h
theorem Xd {t:TRoTask} {k:Int} (h:¬ k>=0):atY t k=t.Y:=if_neg h
def R82 (d:TDepot) (k n:Int) (_S:SpecF) (_Fr:FreshF) (_Sq:SeqF) (Q:ym):Prop :=
 (decide (k>=0)=true->∃s2 n3 n4 n5 n6 es7 n8 b9 n10,((0:Int)<=k/\(9:Nat)=(9:Nat)/\(List.map TRoJob.av d.RoTask.Jobs)[k.toNat]? = some (.agg [AV.str s2,iN n3,iN n4,iN n5,iN n6,.slc 3 es7,iN n8,.bool b9,iN n10]))/\∃s12 n13 n14 n15 n16 es17 n18 b19 n20,((0:Int)<=k/\(9:Nat)=(9:Nat)/\(List.map TRoJob.av d.RoTask.Jobs)[k.toNat]? = some (.agg [AV.str s12,iN n13,iN n14,iN n15,iN n16,.slc 3 es17,iN n18,.bool b19,iN n20]))/\(decide (n>=0)=true->∃s24 n25 n26 n27 n28 es29 n30 b31 n32,((0:Int)<=n/\(9:Nat)=(9:Nat)/\(List.map TRoJob.av d.RoTask.Jobs)[n.toNat]? = some (.agg [AV.str s24,iN n25,iN n26,iN n27,iN n28,.slc 3 es29,iN n30,.bool b31,iN n32]))/\∃s34 n35 n36 n37 n38 es39 n40 b41 n42,((0:Int)<=n/\(9:Nat)=(9:Nat)/\(List.map TRoJob.av d.RoTask.Jobs)[n.toNat]? = some (.agg [AV.str s34,iN n35,iN n36,iN n37,iN n38,.slc 3 es39,iN n40,.bool b41,iN n42]))/\Q (iN (wrap i64 ((wrap i64 (wrap i64 (wrap i64 (wrap i64 (wrap i64 ((if n25>n3 then n25 else n3)-if n25<n3 then n25 else n3)+if n36>n14 then n36 else n14)-if n36<n14 then n36 else n14)*d.RoTask.Pace)+999)).tdiv (1000:Int)))) [])/\(decide (n>=0)=false->Q (iN (wrap i64 ((wrap i64 (wrap i64 (wrap i64 (wrap i64 (wrap i64 ((if d.RoTask.X>n3 then d.RoTask.X else n3)-if d.RoTask.X<n3 then d.RoTask.X else n3)+if d.RoTask.Y>n14 then d.RoTask.Y else n14)-if d.RoTask.Y<n14 then d.RoTask.Y else n14)*d.RoTask.Pace)+999)).tdiv (1000:Int)))) []))/\(decide (k>=0)=false->(decide (n>=0)=true->∃s4 n5 n6 n7 n8 es9 n10 b11 n12,((0:Int)<=n/\(9:Nat)=(9:Nat)/\(List.map TRoJob.av d.RoTask.Jobs)[n.toNat]? = some (.agg [AV.str s4,iN n5,iN n6,iN n7,iN n8,.slc 3 es9,iN n10,.bool b11,iN n12]))/\∃s14 n15 n16 n17 n18 es19 n20 b21 n22,((0:Int)<=n/\(9:Nat)=(9:Nat)/\(List.map TRoJob.av d.RoTask.Jobs)[n.toNat]? = some (.agg [AV.str s14,iN n15,iN n16,iN n17,iN n18,.slc 3 es19,iN n20,.bool b21,iN n22]))/\Q (iN (wrap i64 ((wrap i64 (wrap i64 (wrap i64 (wrap i64 (wrap i64 ((if n5>d.RoTask.X then n5 else d.RoTask.X)-if n5<d.RoTask.X then n5 else d.RoTask.X)+if n16>d.RoTask.Y then n16 else d.RoTask.Y)-if n16<d.RoTask.Y then n16 else d.RoTask.Y)*d.RoTask.Pace)+999)).tdiv (1000:Int)))) [])/\(decide (n>=0)=false->Q (iN (wrap i64 ((wrap i64 (wrap i64 (wrap i64 (wrap i64 (wrap i64 ((if d.RoTask.X>d.RoTask.X then d.RoTask.X else d.RoTask.X)-if d.RoTask.X<d.RoTask.X then d.RoTask.X else d.RoTask.X)+if d.RoTask.Y>d.RoTask.Y then d.RoTask.Y else d.RoTask.Y)-if d.RoTask.Y<d.RoTask.Y then d.RoTask.Y else d.RoTask.Y)*d.RoTask.Pace)+999)).tdiv (1000:Int)))) []))
theorem s82 (d:TDepot) (k:Int) (n:Int) (v:AV) (O:List (List AV)) (h:R82 d k n Sp Fo So (fun r O'=>r=v/\O'=O)):Sp 82 [d.ptr,iN k,iN n] [] v O :=
 yj (w:=⟨[],[],[],[],[]⟩) (k:=0) (keep:=⟨[0,1,2,6,7,8,9,10,11,23,53],[],[],[]⟩) (boxes:=[]) mixed (by exact trivial) Tryz.func82 Tryz.call82 rfl rfl rfl (Nat.le_of_ble_eq_true rfl) (by kernel_rfl) h
theorem c82 (d:TDepot) (k n:Int) (hk:k<d.RoTask.Jobs.length) (hn:n<d.RoTask.Jobs.length):Sp 82 [d.ptr,.int .i64 k,.int .i64 n] [] (.int .i64 (Tm d.RoTask k n)) []:=s82 d k n _ _ (by
 unfold R82 Tm;refine⟨fun h=>?_,fun h=>?_⟩
 ·have h:k>=0:=zt_ h;have hj:=(u7 h hk).1;rw[Xc h,Xe h];refine⟨_,_,_,_,_,_,_,_,_,⟨h,by trivial,hj⟩,_,_,_,_,_,_,_,_,_,⟨h,by trivial,hj⟩,fun g=>?_,fun g=>?_⟩
  ·have g:n>=0:=zt_ g;have hj':=(u7 g hn).1;rw[Xc g,Xe g];exact⟨_,_,_,_,_,_,_,_,_,⟨g,by trivial,hj'⟩,_,_,_,_,_,_,_,_,_,⟨g,by trivial,hj'⟩,rfl,by trivial⟩
  ·rw[Xb (zf_ g),Xd (zf_ g)];exact⟨rfl,by trivial⟩
 ·rw[Xb (zf_ h),Xd (zf_ h)];refine⟨fun g=>?_,fun g=>?_⟩
  ·have g:n>=0:=zt_ g;have hj':=(u7 g hn).1;rw[Xc g,Xe g];exact⟨_,_,_,_,_,_,_,_,_,⟨g,by trivial,hj'⟩,_,_,_,_,_,_,_,_,_,⟨g,by trivial,hj'⟩,rfl,by trivial⟩
  ·rw[Xb (zf_ g),Xd (zf_ g)];exact⟨rfl,by trivial⟩)
def qg (d:TDepot) (k:Int):TTour:=⟨Sv d.RoTask k,d.ptr,(Sv d.RoTask k).From,-1,[],(Sv d.RoTask k).Room,0,0⟩
def R57 (d:TDepot) (k:Int) (_S:SpecF) (_Fr:FreshF) (_Sq:SeqF) (Q:ym):Prop :=
 ∃s0 n1 n2 n3 n4 n5,((0:Int)<=k/\(6:Nat)=(6:Nat)/\(List.map TRoLorry.av d.RoTask.Lorries)[k.toNat]? = some (.agg [AV.str s0,iN n1,iN n2,iN n3,iN n4,iN n5]))/\Q (.agg [AV.str s0,iN n1,iN n2,iN n3,iN n4,iN n5,.eptr d.cs (0:Nat),iN n3,iN (-1:Int),.slc 3 [],iN n2,iN 0,iN 0]) []
theorem s57 (d:TDepot) (k:Int) (v:AV) (O:List (List AV)) (h:R57 d k Sp Fo So (fun r O'=>r=v/\O'=O)):Sp 57 [d.ptr,iN k] [] v O :=
 yj (w:=⟨[],[],[],[],[]⟩) (k:=0) (keep:=⟨[0,1,4,5],[],[],[]⟩) (boxes:=[]) mixed (by exact trivial) Tryz.func57 Tryz.call57 rfl rfl rfl (Nat.le_of_ble_eq_true rfl) (by kernel_rfl) h
theorem c57 (d:TDepot) (k:Int) (h0:0<=k) (hk:k<d.RoTask.Lorries.length):Sp 57 [d.ptr,.int .i64 k] [] (qg d k).av [] :=
 s57 d k _ _ ⟨_,_,_,_,_,_,⟨h0,by trivial,(Hs h0 hk).1⟩,rfl,rfl⟩
def uw (d:TDepot) (r:TTour):Int:=wrap i64 (r.now+Tm d.RoTask r.last (-1))
def R59 (d:TDepot) (r:TTour) (S:SpecF) (_Fr:FreshF) (_Sq:SeqF) (Q:ym):Prop :=
 ∃n0,S 82 [AV.eptr d.cs (0:Nat),iN (r.on d).last,iN (-1:Int)] [] (iN n0) []/\Q (iN (wrap i64 ((r.on d).now+n0))) [[AV.str (r.on d).RoLorry.Name,iN (r.on d).RoLorry.Lift,iN (r.on d).RoLorry.Room,iN (r.on d).RoLorry.From,iN (r.on d).RoLorry.Until,iN (r.on d).RoLorry.PerHour,.eptr d.cs (0:Nat),iN (r.on d).now,iN (r.on d).last,.slc 3 (List.map TRoStop.av (r.on d).stops),iN (r.on d).room,iN (r.on d).price,iN (r.on d).value]]
theorem s59 (d:TDepot) (r:TTour) (v:AV) (O:List (List AV)) (h:R59 d r Sp Fo So (fun r O'=>r=v/\O'=O)):Sp 59 [.ref 0 0] [(r.on d).cs] v O :=
 yj (w:=⟨[],[],[],[],[]⟩) (k:=0) (keep:=⟨[0,2],[],[],[]⟩) (boxes:=[⟨131,false,(r.on d).cs⟩]) mixed (by exact trivial) Tryz.func59 Tryz.call59 rfl rfl rfl (Nat.le_of_ble_eq_true rfl) (by kernel_rfl) h
theorem c59 (d:TDepot) (r:TTour) (hl:r.last<d.RoTask.Jobs.length):Sp 59 [.ref 0 0] [(r.on d).cs] (.int .i64 (uw d r)) [(r.on d).cs] :=
 s59 d r _ _ ⟨_,c82 d r.last (-1) hl (by omega),rfl,rfl⟩
def Mj (d:TDepot) (r:TTour):Int:=if r.last<0 then 0 else wrap i64 (r.price+wrap i64 ((wrap i64 (wrap i64 (wrap i64 (uw d r-r.RoLorry.From)*r.RoLorry.PerHour)+3599)).tdiv 3600))
def FA (d:TDepot) (r:TTour) (S:SpecF) (_Fr:FreshF) (_Sq:SeqF) (Q:ym):Prop :=
 (decide ((r.on d).last<(0:Int))=true->Q (iN 0) [[AV.str (r.on d).RoLorry.Name,iN (r.on d).RoLorry.Lift,iN (r.on d).RoLorry.Room,iN (r.on d).RoLorry.From,iN (r.on d).RoLorry.Until,iN (r.on d).RoLorry.PerHour,.eptr d.cs (0:Nat),iN (r.on d).now,iN (r.on d).last,.slc 3 (List.map TRoStop.av (r.on d).stops),iN (r.on d).room,iN (r.on d).price,iN (r.on d).value]])/\(decide ((r.on d).last<(0:Int))=false->∃n2,S 59 [AV.ref 0 0] [[AV.str (r.on d).RoLorry.Name,iN (r.on d).RoLorry.Lift,iN (r.on d).RoLorry.Room,iN (r.on d).RoLorry.From,iN (r.on d).RoLorry.Until,iN (r.on d).RoLorry.PerHour,.eptr d.cs (0:Nat),iN (r.on d).now,iN (r.on d).last,.slc 3 (List.map TRoStop.av (r.on d).stops),iN (r.on d).room,iN (r.on d).price,iN (r.on d).value]] (iN n2) [[AV.str (r.on d).RoLorry.Name,iN (r.on d).RoLorry.Lift,iN (r.on d).RoLorry.Room,iN (r.on d).RoLorry.From,iN (r.on d).RoLorry.Until,iN (r.on d).RoLorry.PerHour,.eptr d.cs (0:Nat),iN (r.on d).now,iN (r.on d).last,.slc 3 (List.map TRoStop.av (r.on d).stops),iN (r.on d).room,iN (r.on d).price,iN (r.on d).value]]/\Q (iN (wrap i64 ((r.on d).price+wrap i64 ((wrap i64 (wrap i64 (wrap i64 (n2-(r.on d).RoLorry.From)*(r.on d).RoLorry.PerHour)+3599)).tdiv (3600:Int))))) [[AV.str (r.on d).RoLorry.Name,iN (r.on d).RoLorry.Lift,iN (r.on d).RoLorry.Room,iN (r.on d).RoLorry.From,iN (r.on d).RoLorry.Until,iN (r.on d).RoLorry.PerHour,.eptr d.cs (0:Nat),iN (r.on d).now,iN (r.on d).last,.slc 3 (List.map TRoStop.av (r.on d).stops),iN (r.on d).room,iN (r.on d).price,iN (r.on d).value]])
theorem zbV (d:TDepot) (r:TTour) (v:AV) (O:List (List AV)) (h:FA d r Sp Fo So (fun r O'=>r=v/\O'=O)):Sp 100 [.ref 0 0] [(r.on d).cs] v O :=
 yj (w:=⟨[],[],[59],[],[]⟩) (k:=0) (keep:=⟨[0,2,7],[],[],[]⟩) (boxes:=[⟨131,false,(r.on d).cs⟩]) mixed (by exact trivial) Tryz.func100 Tryz.call100 rfl rfl rfl (Nat.le_of_ble_eq_true rfl) (by kernel_rfl) h
theorem KG (d:TDepot) (r:TTour) (hl:r.last<d.RoTask.Jobs.length):Sp 100 [.ref 0 0] [(r.on d).cs] (.int .i64 (Mj d r)) [(r.on d).cs]:=zbV d r _ _ (by
 unfold FA Mj;refine⟨fun h=>⟨?_,by trivial⟩,fun h=>⟨_,c59 d r hl,?_,by trivial⟩⟩
 ·have h:r.last<0:=zt_ h;rw[if_pos h]
 ·have h:¬ r.last<0:=zf_ h;rw[if_neg h];rfl)
def FF (s:List TRoStop) (_S:SpecF) (_Fr:FreshF) (_Sq:SeqF) (Q:ym):Prop :=
 ((0:Int)<=(↑(List.map TRoStop.av s).length:Int)/\(↑(List.map TRoStop.av s).length:Int)=(↑(List.map TRoStop.av s).length:Int)/\(↑(List.map TRoStop.av s).length:Int)<=(↑(List.map TRoStop.av s).length:Int))/\Q (.slc 2 (List.take (↑(List.map TRoStop.av s).length:Int).toNat (List.map TRoStop.av s))) []
theorem zb0 (s:List TRoStop) (v:AV) (O:List (List AV)) (h:FF s Sp Fo So (fun r O'=>r=v/\O'=O)):Sp 108 [.slc 3 (List.map TRoStop.av s)] [] v O :=
 yj (w:=⟨[],[],[],[],[]⟩) (k:=0) (keep:=⟨[0,2],[],[],[]⟩) (boxes:=[]) mixed (by exact trivial) Tryz.func108 Tryz.call108 rfl rfl rfl (Nat.le_of_ble_eq_true rfl) (by kernel_rfl) h
theorem zba (l:List TRoStop):Sp 108 [.slc 3 (l.map TRoStop.av)] [] (.slc 2 (l.map TRoStop.av)) []:=zb0 l _ _ (by
 unfold FF;simp only[List.length_map];refine⟨⟨by omega,by trivial,Int.le_refl _⟩,?_,by trivial⟩;rw[Int.toNat_natCast,List.take_of_length_le (by simp)])
def YA (n:Int):Bool:=qa n 0 10000000
def R74 (n:Int) (S:SpecF) (_Fr:FreshF) (_Sq:SeqF) (Q:ym):Prop :=
 ∃b0,S 53 [iN n,iN 0,iN 10000000] [] (.bool b0) []/\Q (.bool b0) []
theorem s74 (n:Int) (v:AV) (O:List (List AV)) (h:R74 n Sp Fo So (fun r O'=>r=v/\O'=O)):Sp 74 [iN n] [] v O :=
 yj (w:=⟨[],[],[],[],[]⟩) (k:=0) (keep:=⟨[0,2],[],[],[]⟩) (boxes:=[]) mixed (by exact trivial) Tryz.func74 Tryz.call74 rfl rfl rfl (Nat.le_of_ble_eq_true rfl) (by kernel_rfl) h
theorem c74 (n:Int):Sp 74 [.int .i64 n] [] (.bool (YA n)) []:=s74 n _ _ ⟨_,c53 ..,rfl,rfl⟩
def H3 (s:List Int) (S:SpecF) (_Fr:FreshF) (_Sq:SeqF) (Q:ym):Prop :=
 ∃(I0:Nat->List AV->Prop),(∃m2,I0 m2 [iN 0])/\∀(m2:Nat) (n3:Int),I0 m2 [iN n3]->(decide (n3<(↑(List.map (AV.int i64) s).length:Int))=true->∃n7,((0:Int)<=n3/\(1:Nat)=(1:Nat)/\(List.map (AV.int i64) s)[n3.toNat]? = some (iN n7))/\∃b9,S 74 [iN n7] [] (.bool b9) []/\(b9=true->Q (iN n3) [])/\(b9=false->∃k13,k13<m2/\I0 k13 [iN (wrap i64 (n3+1))]))/\(decide (n3<(↑(List.map (AV.int i64) s).length:Int))=false->Q (iN (-1:Int)) [])
theorem D4 (s:List Int) (v:AV) (O:List (List AV)) (h:H3 s Sp Fo So (fun r O'=>r=v/\O'=O)):Sp 115 [.slc 3 (List.map (AV.int .i64) s),.fn 74 [] []] [] v O :=
 yj (w:=⟨[],[],[74],[],[]⟩) (k:=0) (keep:=⟨[0,1,4,5,7,8,9,16],[⟨2,[(8,iN 0)],[],[],[],[],[]⟩],[],[]⟩) (boxes:=[]) mixed (by exact trivial) Tryz.func115 Tryz.call115 rfl rfl rfl (Nat.le_of_ble_eq_true rfl) (by kernel_rfl) h
theorem Di (s:List Int) (hl:s.length<=1000000):Sp 115 [.slc 3 (s.map (AV.int .i64)),.fn 74 [] []] [] (.int .i64 (yI YA 0 s)) []:=D4 s _ _ (by
 unfold H3;refine⟨fun m vs=>∃k:Nat,vs=[.int .i64 k]/\k<=s.length/\m=s.length-k/\yI YA k (s.drop k)=yI YA 0 s,⟨_,0,rfl,by omega,rfl,rfl⟩,?_⟩;rintro m n ⟨k,hk,hle,rfl,hn⟩;cases hk;simp only[List.length_map];refine⟨fun h3=>?_,fun h3=>⟨?_,by trivial⟩⟩
 ·have h3:k<s.length:=by have:=zt_ h3;omega
  obtain ⟨x,hx,hx'⟩:=yH (f:=(AV.int .i64)) h3;have hat:=qE (f:=YA) hx;refine⟨x,⟨by omega,by trivial,hx'⟩,_,c74 x,fun h4=>⟨?_,by trivial⟩,fun h4=>⟨_,?_,k+1,?_,by omega,rfl,?_⟩⟩
  ·rw[<- hn,hat,h4];rfl
  ·omega
  ·rw[yx (by omega)]
  ·rw[<- hn,hat,h4];rfl
 ·have:k=s.length:=by have:=zf_ h3;omega
  rw[<- hn,this,List.drop_length];rfl)
def zaX (s:List Int) (S:SpecF) (_Fr:FreshF) (_Sq:SeqF) (Q:ym):Prop :=
 ∃n0,S 115 [AV.slc 3 (List.map (AV.int i64) s),AV.fn (74:FuncId) [] []] [] (iN n0) []/\Q (.bool (decide (n0>=0))) []
theorem zc0 (s:List Int) (v:AV) (O:List (List AV)) (h:zaX s Sp Fo So (fun r O'=>r=v/\O'=O)):Sp 73 [.slc 3 (List.map (AV.int .i64) s),.fn 74 [] []] [] v O :=
 yj (w:=⟨[],[],[115],[],[]⟩) (k:=0) (keep:=⟨[0,1,4],[],[],[]⟩) (boxes:=[]) mixed (by exact trivial) Tryz.func73 Tryz.call73 rfl rfl rfl (Nat.le_of_ble_eq_true rfl) (by kernel_rfl) h
theorem zbE (s:List Int) (hl:s.length<=1000000):Sp 73 [.slc 3 (s.map (AV.int .i64)),.fn 74 [] []] [] (.bool (s.any YA)) []:=zc0 s _ _ ⟨_,Di s hl,by rw[qk],rfl⟩
def YY (n:Int):Bool:=qa n 0 1000000
def R87 (n:Int) (S:SpecF) (_Fr:FreshF) (_Sq:SeqF) (Q:ym):Prop :=
 ∃b0,S 53 [iN n,iN 0,iN 1000000] [] (.bool b0) []/\Q (.bool b0) []
theorem s87 (n:Int) (v:AV) (O:List (List AV)) (h:R87 n Sp Fo So (fun r O'=>r=v/\O'=O)):Sp 87 [iN n] [] v O :=
 yj (w:=⟨[],[],[],[],[]⟩) (k:=0) (keep:=⟨[0,2],[],[],[]⟩) (boxes:=[]) mixed (by exact trivial) Tryz.func87 Tryz.call87 rfl rfl rfl (Nat.le_of_ble_eq_true rfl) (by kernel_rfl) h
theorem c87 (n:Int):Sp 87 [.int .i64 n] [] (.bool (YY n)) []:=s87 n _ _ ⟨_,c53 ..,rfl,rfl⟩
def H4 (s:List Int) (S:SpecF) (_Fr:FreshF) (_Sq:SeqF) (Q:ym):Prop :=
 ∃(I0:Nat->List AV->Prop),(∃m2,I0 m2 [iN 0])/\∀(m2:Nat) (n3:Int),I0 m2 [iN n3]->(decide (n3<(↑(List.map (AV.int i64) s).length:Int))=true->∃n7,((0:Int)<=n3/\(1:Nat)=(1:Nat)/\(List.map (AV.int i64) s)[n3.toNat]? = some (iN n7))/\∃b9,S 87 [iN n7] [] (.bool b9) []/\(b9=true->Q (iN n3) [])/\(b9=false->∃k13,k13<m2/\I0 k13 [iN (wrap i64 (n3+1))]))/\(decide (n3<(↑(List.map (AV.int i64) s).length:Int))=false->Q (iN (-1:Int)) [])
theorem D5 (s:List Int) (v:AV) (O:List (List AV)) (h:H4 s Sp Fo So (fun r O'=>r=v/\O'=O)):Sp 115 [.slc 3 (List.map (AV.int .i64) s),.fn 87 [] []] [] v O :=
 yj (w:=⟨[],[],[87],[],[]⟩) (k:=0) (keep:=⟨[0,1,4,5,7,8,9,16],[⟨2,[(8,iN 0)],[],[],[],[],[]⟩],[],[]⟩) (boxes:=[]) mixed (by exact trivial) Tryz.func115 Tryz.call115 rfl rfl rfl (Nat.le_of_ble_eq_true rfl) (by kernel_rfl) h
theorem Dj (s:List Int) (hl:s.length<=1000000):Sp 115 [.slc 3 (s.map (AV.int .i64)),.fn 87 [] []] [] (.int .i64 (yI YY 0 s)) []:=D5 s _ _ (by
 unfold H4;refine⟨fun m vs=>∃k:Nat,vs=[.int .i64 k]/\k<=s.length/\m=s.length-k/\yI YY k (s.drop k)=yI YY 0 s,⟨_,0,rfl,by omega,rfl,rfl⟩,?_⟩;rintro m n ⟨k,hk,hle,rfl,hn⟩;cases hk;simp only[List.length_map];refine⟨fun h3=>?_,fun h3=>⟨?_,by trivial⟩⟩
 ·have h3:k<s.length:=by have:=zt_ h3;omega
  obtain ⟨x,hx,hx'⟩:=yH (f:=(AV.int .i64)) h3;have hat:=qE (f:=YY) hx;refine⟨x,⟨by omega,by trivial,hx'⟩,_,c87 x,fun h4=>⟨?_,by trivial⟩,fun h4=>⟨_,?_,k+1,?_,by omega,rfl,?_⟩⟩
  ·rw[<- hn,hat,h4];rfl
  ·omega
  ·rw[yx (by omega)]
  ·rw[<- hn,hat,h4];rfl
 ·have:k=s.length:=by have:=zf_ h3;omega
  rw[<- hn,this,List.drop_length];rfl)
def zaY (s:List Int) (S:SpecF) (_Fr:FreshF) (_Sq:SeqF) (Q:ym):Prop :=
 ∃n0,S 115 [AV.slc 3 (List.map (AV.int i64) s),AV.fn (87:FuncId) [] []] [] (iN n0) []/\Q (.bool (decide (n0>=0))) []
theorem zc1 (s:List Int) (v:AV) (O:List (List AV)) (h:zaY s Sp Fo So (fun r O'=>r=v/\O'=O)):Sp 73 [.slc 3 (List.map (AV.int .i64) s),.fn 87 [] []] [] v O :=
 yj (w:=⟨[],[],[115],[],[]⟩) (k:=0) (keep:=⟨[0,1,4],[],[],[]⟩) (boxes:=[]) mixed (by exact trivial) Tryz.func73 Tryz.call73 rfl rfl rfl (Nat.le_of_ble_eq_true rfl) (by kernel_rfl) h
theorem zbF (s:List Int) (hl:s.length<=1000000):Sp 73 [.slc 3 (s.map (AV.int .i64)),.fn 87 [] []] [] (.bool (s.any YY)) []:=zc1 s _ _ ⟨_,Dj s hl,by rw[qk],rfl⟩
def S4 (p:TRoProgramme) (x:TRoAsset):Int:=if qa x.Cost 0 1000000 then 7 else if qa x.Rate 0 1000 then 7 else if qa x.Harm 0 10000000 then 7 else if qa x.Last 0 p.First then 7 else 0
def jJ (p:TRoProgramme) (_:Nat) (x:TRoAsset):Int:=S4 p x
def R77 (x:TRoAsset) (v0:TRoProgramme) (S:SpecF) (_Fr:FreshF) (_Sq:SeqF) (Q:ym):Prop :=
 ∃b0,S 53 [iN x.Cost,iN 0,iN 1000000] [] (.bool b0) []/\(b0=true->Q (iN 7) [v0.cs])/\(b0=false->∃b4,S 53 [iN x.Rate,iN 0,iN 1000] [] (.bool b4) []/\(b4=true->Q (iN 7) [v0.cs])/\(b4=false->∃b8,S 53 [iN x.Harm,iN 0,iN 10000000] [] (.bool b8) []/\(b8=true->Q (iN 7) [v0.cs])/\(b8=false->∃b12,S 53 [iN x.Last,iN 0,iN v0.First] [] (.bool b12) []/\(b12=true->Q (iN 7) [v0.cs])/\(b12=false->Q (iN 0) [v0.cs]))))
theorem s77 (x:TRoAsset) (v0:TRoProgramme) (v:AV) (O:List (List AV)) (h:R77 x v0 Sp Fo So (fun r O'=>r=v/\O'=O)):Sp 77 [x.av,.ref 0 0] [v0.cs] v O :=
 yj (w:=⟨[],[],[],[],[]⟩) (k:=0) (keep:=⟨[0,1,2,3,23],[],[],[]⟩) (boxes:=[⟨66,false,v0.cs⟩]) mixed (by exact trivial) Tryz.func77 Tryz.call77 rfl rfl rfl (Nat.le_of_ble_eq_true rfl) (by kernel_rfl) h
theorem c77 (k:Nat) (x:TRoAsset) (p:TRoProgramme):Sp 77 [x.av,.ref 0 0] [p.cs] (.int .i64 (jJ p k x)) [p.cs]:=s77 x p _ _ (by
 unfold R77 jJ S4;refine⟨_,c53 ..,fun h=>⟨?_,by trivial⟩,fun h1=>⟨_,c53 ..,fun h=>⟨?_,by trivial⟩,fun h2=>⟨_,c53 ..,fun h=>⟨?_,by trivial⟩,fun h3=>⟨_,c53 ..,fun h=>⟨?_,by trivial⟩,fun h4=>⟨?_,by trivial⟩⟩⟩⟩⟩
 ·rw[if_pos h]
 ·rw[if_neg (by rw[h1];simp),if_pos h]
 ·rw[if_neg (by rw[h1];simp),if_neg (by rw[h2];simp),if_pos h]
 ·rw[if_neg (by rw[h1];simp),if_neg (by rw[h2];simp),if_neg (by rw[h3];simp),if_pos h]
 ·rw[if_neg (by rw[h1];simp),if_neg (by rw[h2];simp),if_neg (by rw[h3];simp),if_neg (by rw[h4];simp)])
def R76 (x:TRoAsset) (_S:SpecF) (_Fr:FreshF) (_Sq:SeqF) (Q:ym):Prop :=
 Q (.str x.Name) []
theorem s76 (x:TRoAsset) (v:AV) (O:List (List AV)) (h:R76 x Sp Fo So (fun r O'=>r=v/\O'=O)):Sp 76 [x.av] [] v O :=
 yj (w:=⟨[],[],[],[],[]⟩) (k:=0) (keep:=⟨[0,1,2],[],[],[]⟩) (boxes:=[]) mixed (by exact trivial) Tryz.func76 Tryz.call76 rfl rfl rfl (Nat.le_of_ble_eq_true rfl) (by kernel_rfl) h
theorem c76 (x:TRoAsset):Sp 76 [x.av] [] (.str x.Name) []:=s76 x _ _ ⟨rfl,rfl⟩
def zax (y v1:TRoAsset) (S:SpecF) (_Fr:FreshF) (_Sq:SeqF) (Q:ym):Prop :=
 ∃s0,S 76 [y.av] [] (.str s0) []/\∃s2,S 76 [v1.av] [] (.str s2) []/\Q (.bool (s0.toList == s2.toList)) [[AV.fn (76:FuncId) [] []],v1.cs]
theorem zb8 (y:TRoAsset) (v1:TRoAsset) (v:AV) (O:List (List AV)) (h:zax y v1 Sp Fo So (fun r O'=>r=v/\O'=O)):Sp 117 [y.av,.ref 0 0,.ref 1 0] [[.fn 76 [] []],v1.cs] v O :=
 yj (w:=⟨[],[],[],[],[]⟩) (k:=0) (keep:=⟨[0,1,2,3,4],[],[],[]⟩) (boxes:=[⟨149,false,[.fn 76 [] []]⟩,⟨73,false,v1.cs⟩]) mixed (by exact trivial) Tryz.func117 Tryz.call117 rfl rfl rfl (Nat.le_of_ble_eq_true rfl) (by kernel_rfl) h
theorem zbg (x y:TRoAsset):Sp 117 [x.av,.ref 0 0,.ref 1 0] [[.fn 76 [] []],y.cs] (.bool (qX x.Name y.Name)) [[.fn 76 [] []],y.cs]:=zb8 x y _ _ ⟨_,c76 x,_,c76 y,rfl,rfl⟩
def zaA (s:List TRoAsset) (f1:TRoAsset) (S:SpecF) (_Fr:FreshF) (_Sq:SeqF) (Q:ym):Prop :=
 ∃(I0:Nat->List AV->Prop),(∃m2,I0 m2 [iN 0])/\∀(m2:Nat) (n3:Int),I0 m2 [iN n3]->(decide (n3<(↑(List.map TRoAsset.av s).length:Int))=true->∃s7 n8 n9 n10 n11,((0:Int)<=n3/\(5:Nat)=(5:Nat)/\(List.map TRoAsset.av s)[n3.toNat]? = some (.agg [AV.str s7,iN n8,iN n9,iN n10,iN n11]))/\∃b13 s14 n15 n16 n17 n18,S 117 [AV.agg [AV.str s7,iN n8,iN n9,iN n10,iN n11],.ref 0 0,.ref 1 0] [[AV.fn (76:FuncId) [] []],f1.cs] (.bool b13) [[AV.fn (76:FuncId) [] []],[AV.str s14,iN n15,iN n16,iN n17,iN n18]]/\(b13=true->Q (iN n3) [[AV.fn (76:FuncId) [] []],[AV.str s14,iN n15,iN n16,iN n17,iN n18]])/\(b13=false->yn [AV.fn (76:FuncId) [] []]/\[AV.str s14,iN n15,iN n16,iN n17,iN n18]=f1.cs/\∃k24,k24<m2/\I0 k24 [iN (wrap i64 (n3+1))]))/\(decide (n3<(↑(List.map TRoAsset.av s).length:Int))=false->Q (iN (-1:Int)) [[AV.fn (76:FuncId) [] []],f1.cs])
theorem zcf (s:List TRoAsset) (f1:TRoAsset) (v:AV) (O:List (List AV)) (h:zaA s f1 Sp Fo So (fun r O'=>r=v/\O'=O)):Sp 132 [.slc 3 (List.map TRoAsset.av s),.fn 117 [] [.ref 0 0,.ref 1 0]] [[.fn 76 [] []],f1.cs] v O :=
 yj (w:=⟨[],[],[],[],[]⟩) (k:=0) (keep:=⟨[0,1,4,5,7,8,9,16],[⟨2,[(8,iN 0)],[],[],[],[],[]⟩],[],[]⟩) (boxes:=[⟨149,false,[.fn 76 [] []]⟩,⟨73,false,f1.cs⟩]) mixed (by exact trivial) Tryz.func132 Tryz.call132 rfl rfl rfl (Nat.le_of_ble_eq_true rfl) (by kernel_rfl) h
theorem zbk (s:List TRoAsset) (y:TRoAsset) (hl:s.length<=1000000):Sp 132 [.slc 3 (List.map TRoAsset.av s),.fn 117 [] [.ref 0 0,.ref 1 0]] [[.fn 76 [] []],y.cs] (.int .i64 (yI (fun x=>qX x.Name y.Name) 0 s)) [[.fn 76 [] []],y.cs]:=zcf s y _ _ (by
 refine⟨fun m vs=>∃n:Nat,vs=[.int .i64 n]/\n<=s.length/\m=s.length-n/\yI (fun x=>qX x.Name y.Name) n (s.drop n)=yI (fun x=>qX x.Name y.Name) 0 s,⟨_,0,rfl,by omega,rfl,rfl⟩,?_⟩;rintro m n ⟨k,hk,hle,rfl,hn⟩;cases hk;refine⟨fun h3=>?_,fun h3=>⟨?_,rfl⟩⟩
 ·have h3:k<s.length:=by simpa using h3
  obtain ⟨x,hx,hx'⟩:=yH (f:=TRoAsset.av) h3;have hat:=qE (f:=(fun x=>qX x.Name y.Name)) hx;refine⟨x.Name,x.Cost,x.Rate,x.Harm,x.Last,⟨by omega,rfl,hx'⟩,_,y.Name,y.Cost,y.Rate,y.Harm,y.Last,zbg x y,fun h4=>⟨?_,rfl⟩,fun h4=>⟨rfl,rfl,_,?_,k+1,?_,by omega,rfl,?_⟩⟩
  ·rw[<- hn,hat,h4];rfl
  ·omega
  ·rw[yx (by omega)]
  ·rw[<- hn,hat,h4];rfl
 ·have:k=s.length:=by simp at h3;omega
  rw[<- hn,this,List.drop_length];rfl)
def zaw (s:List TRoAsset) (f1:TRoAsset) (S:SpecF) (_Fr:FreshF) (_Sq:SeqF) (Q:ym):Prop :=
 ∃n0 s1 n2 n3 n4 n5,S 132 [AV.slc 3 (List.map TRoAsset.av s),AV.fn (117:FuncId) [] [AV.ref 0 0,.ref 1 0]] [[AV.fn (76:FuncId) [] []],f1.cs] (iN n0) [[AV.fn (76:FuncId) [] []],[AV.str s1,iN n2,iN n3,iN n4,iN n5]]/\Q (.bool (decide (n0>=0))) [[AV.fn (76:FuncId) [] []],[AV.str s1,iN n2,iN n3,iN n4,iN n5]]
theorem zb7 (s:List TRoAsset) (f1:TRoAsset) (v:AV) (O:List (List AV)) (h:zaw s f1 Sp Fo So (fun r O'=>r=v/\O'=O)):Sp 116 [.slc 3 (List.map TRoAsset.av s),.fn 117 [] [.ref 0 0,.ref 1 0]] [[.fn 76 [] []],f1.cs] v O :=
 yj (w:=⟨[],[],[],[],[]⟩) (k:=0) (keep:=⟨[0,1,4],[],[],[]⟩) (boxes:=[⟨149,false,[.fn 76 [] []]⟩,⟨73,false,f1.cs⟩]) mixed (by exact trivial) Tryz.func116 Tryz.call116 rfl rfl rfl (Nat.le_of_ble_eq_true rfl) (by kernel_rfl) h
theorem zbf (s:List TRoAsset) (y:TRoAsset) (hl:s.length<=1000000):Sp 116 [.slc 3 (List.map TRoAsset.av s),.fn 117 [] [.ref 0 0,.ref 1 0]] [[.fn 76 [] []],y.cs] (.bool (s.any (fun x=>qX x.Name y.Name))) [[.fn 76 [] []],y.cs]:=zb7 s y _ _ (by
 refine⟨_,y.Name,y.Cost,y.Rate,y.Harm,y.Last,zbk s y hl,?_,rfl⟩;rw[qk])
def R75 (l:List TRoAsset) (rest0:TRoProgramme) (S:SpecF) (_Fr:FreshF) (_Sq:SeqF) (Q:ym):Prop :=
 ∃(I0:Nat->List AV->Prop),(∃m2,I0 m2 [iN 0,rest0.av])/\∀(m2:Nat) (n3:Int) (es4 es5:List AV) (n6 n7:Int),I0 m2 [iN n3,.agg [AV.slc 3 es4,.slc 3 es5,iN n6,iN n7]]->(decide (n3<(↑(List.map TRoAsset.av l).length:Int))=true->∃s11 n12 n13 n14 n15,((0:Int)<=n3/\(5:Nat)=(5:Nat)/\(List.map TRoAsset.av l)[n3.toNat]? = some (.agg [AV.str s11,iN n12,iN n13,iN n14,iN n15]))/\∃n17,S 77 [AV.agg [AV.str s11,iN n12,iN n13,iN n14,iN n15],.ref 0 0] [[AV.slc 3 es4,.slc 3 es5,iN n6,iN n7]] (iN n17) [[AV.slc 3 es4,.slc 3 es5,iN n6,iN n7]]/\∃s19,S 76 [AV.agg [AV.str s11,iN n12,iN n13,iN n14,iN n15]] [] (.str s19) []/\∃b21,S 110 [AV.str s19] [] (.bool b21) []/\((!b21)=true->Q (.tup [iN n3,iN 6]) [[AV.slc 3 es4,.slc 3 es5,iN n6,iN n7]])/\((!b21)=false->((0:Int)<=n3/\n3<=(↑(List.map TRoAsset.av l).length:Int))/\∃b26,S 116 [AV.slc 3 (List.take n3.toNat (List.map TRoAsset.av l)),AV.fn (117:Nat) [] [AV.ref 0 0,.ref 1 0]] [[AV.fn (76:FuncId) [] []],[AV.str s11,iN n12,iN n13,iN n14,iN n15]] (.bool b26) [[AV.fn (76:FuncId) [] []],[AV.str s11,iN n12,iN n13,iN n14,iN n15]]/\(b26=true->Q (.tup [iN n3,iN 5]) [[AV.slc 3 es4,.slc 3 es5,iN n6,iN n7]])/\(b26=false->((n17 != 0)=true->Q (.tup [iN n3,iN n17]) [[AV.slc 3 es4,.slc 3 es5,iN n6,iN n7]])/\((n17 != 0)=false->yn [AV.fn (76:FuncId) [] []]/\∃k33,k33<m2/\I0 k33 [iN (wrap i64 (n3+1)),.agg [AV.slc 3 es4,.slc 3 es5,iN n6,iN n7]]))))/\(decide (n3<(↑(List.map TRoAsset.av l).length:Int))=false->Q (.tup TEncl.zero.cs) [[AV.slc 3 es4,.slc 3 es5,iN n6,iN n7]])
theorem s75 (l:List TRoAsset) (rest0:TRoProgramme) (v:AV) (O:List (List AV)) (h:R75 l rest0 Sp Fo So (fun r O'=>r=v/\O'=O)):Sp 75 [.slc 3 (List.map TRoAsset.av l),.fn 76 [] [],.fn 77 [] [.ref 0 0]] [rest0.cs] v O :=
 yj (w:=⟨[],[],[116,117,77],[],[]⟩) (k:=0) (keep:=⟨[0,1,2,4,6,7,8,9,10,11,12,13,14,21,27,34],[⟨2,[(13,iN 0)],[],[(1000000,.agg [.slc 3 [],.slc 3 [],iN 0,iN 0])],[],[],[]⟩],[],[]⟩) (boxes:=[⟨66,false,rest0.cs⟩]) mixed (by exact trivial) Tryz.func75 Tryz.call75 rfl rfl rfl (Nat.le_of_ble_eq_true rfl) (by kernel_rfl) h
theorem c75 (l:List TRoAsset) (hl:l.length<=1000) (hnm:∀x∈l,x.Name.size<=9223372036854775807) (p:TRoProgramme):Sp 75 [.slc 3 (List.map TRoAsset.av l),.fn 76 [] [],.fn 77 [] [.ref 0 0]] [p.cs] (.tup [.int .i64 (qC (qj TRoAsset.Name (jJ p) l) l.length 0).1,.int .i64 (qC (qj TRoAsset.Name (jJ p) l) l.length 0).2]) [p.cs]:=s75 l p _ _ (by
 unfold R75;refine⟨fun m vs=>∃n:Nat,vs=[.int .i64 n,p.av]/\n<=l.length/\m=l.length-n/\qC (qj TRoAsset.Name (jJ p) l) (l.length-n) n=qC (qj TRoAsset.Name (jJ p) l) l.length 0,⟨_,0,rfl,by omega,rfl,rfl⟩,?_⟩;intro m;intros;rename_i hJ;obtain ⟨k,hk,hle,rfl,hn⟩:=hJ;unfold TRoProgramme.av TRoProgramme.cs at hk;cases hk;refine⟨fun h3=>?_,fun h3=>⟨?_,by trivial⟩⟩
 ·have h3:k<l.length:=by simpa using h3
  obtain ⟨x,hx,hx'⟩:=yH (f:=TRoAsset.av) h3;have hat:=vM (nm:=TRoAsset.Name) (rest:=(jJ p)) hx;have hf:=XZ (e:=qj TRoAsset.Name (jJ p) l) h3;have hmem:x∈l:=List.mem_of_getElem? hx;have htake:List.take (k:Int).toNat (List.map TRoAsset.av l)=List.map TRoAsset.av (l.take k):=by rw[Int.toNat_natCast,List.map_take]
  refine⟨x.Name,x.Cost,x.Rate,x.Harm,x.Last,⟨by omega,rfl,hx'⟩,_,c77 k x p,_,c76 x,_,GF _ (hnm x hmem),fun h4=>⟨?_,by trivial⟩,fun h4=>⟨⟨by omega,by simp;omega⟩,((l.take k).any fun z=>qX z.Name x.Name),(by rw[htake];exact zbf (l.take k) x (by rw[List.length_take];omega)),fun h5=>⟨?_,by trivial⟩,fun h5=>⟨fun h6=>⟨?_,by trivial⟩,fun h6=>⟨by trivial,_,(by omega:l.length-(k+1)<l.length-k),k+1,?_,by omega,rfl,?_⟩⟩⟩⟩
  ·have he:qj TRoAsset.Name (jJ p) l k=6:=by rw[hat,if_pos h4]
   rw[<- hn,hf,he];rfl
  ·have h4':¬ (!w9 x.Name)=true:=by rw[h4];simp
   have he:qj TRoAsset.Name (jJ p) l k=5:=by rw[hat,if_neg h4',if_pos h5]
   rw[<- hn,hf,he];rfl
  ·have h4':¬ (!w9 x.Name)=true:=by rw[h4];simp
   have h5':¬ ((l.take k).any fun z=>qX z.Name x.Name)=true:=by rw[h5];simp
   have he:qj TRoAsset.Name (jJ p) l k=(jJ p) k x:=by rw[hat,if_neg h4',if_neg h5']
   have h6:(jJ p) k x≠0:=by simpa using h6
   rw[<- hn,hf,he,if_pos h6]
  ·rw[yx (by omega)]<;>rfl
  ·have h4':¬ (!w9 x.Name)=true:=by rw[h4];simp
   have h5':¬ ((l.take k).any fun z=>qX z.Name x.Name)=true:=by rw[h5];simp
   have he:qj TRoAsset.Name (jJ p) l k=(jJ p) k x:=by rw[hat,if_neg h4',if_neg h5']
   have h6:(jJ p) k x=0:=by simpa using h6
   rw[<- hn,hf,he,if_neg (by simp[h6])]
 ·have:k=l.length:=by simp at h3;omega
  rw[<- hn,this,Nat.sub_self];rfl)
def vw (p:TRoProgramme):Int × Int :=
 if p.Assets.length>6 then (-1,3) else if p.Budgets.length>3 then (-1,3) else if qa p.First 0 40000 then (-1,7) else if qa p.Days 1 4000 then (-1,7) else if p.Budgets.any YA then (-1,7) else qC (qj TRoAsset.Name (jJ p) p.Assets) p.Assets.length 0
def Ub (p:TRoProgramme):Prop:=∀x∈p.Assets,x.Name.size<=9223372036854775807
def R23 (p:TRoProgramme) (S:SpecF) (_Fr:FreshF) (_Sq:SeqF) (Q:ym):Prop :=
 (decide ((↑(List.map TRoAsset.av p.Assets).length:Int)>(6:Int))=true->Q (.tup [iN (-1:Int),iN 3]) [])/\(decide ((↑(List.map TRoAsset.av p.Assets).length:Int)>(6:Int))=false->(decide ((↑(List.map (AV.int i64) p.Budgets).length:Int)>(3:Int))=true->Q (.tup [iN (-1:Int),iN 3]) [])/\(decide ((↑(List.map (AV.int i64) p.Budgets).length:Int)>(3:Int))=false->∃b4,S 53 [iN p.First,iN 0,iN 40000] [] (.bool b4) []/\(b4=true->Q (.tup [iN (-1:Int),iN 7]) [])/\(b4=false->∃b8,S 53 [iN p.Days,iN 1,iN 4000] [] (.bool b8) []/\(b8=true->Q (.tup [iN (-1:Int),iN 7]) [])/\(b8=false->∃b12,S 73 [AV.slc 3 (List.map (AV.int i64) p.Budgets),AV.fn (74:Nat) [] []] [] (.bool b12) []/\(b12=true->Q (.tup [iN (-1:Int),iN 7]) [])/\(b12=false->∃n16 n17 es18 es19 n20 n21,S 75 [AV.slc 3 (List.map TRoAsset.av p.Assets),AV.fn (76:Nat) [] [],AV.fn (77:Nat) [] [AV.ref 0 0]] [p.cs] (.tup [iN n16,iN n17]) [[AV.slc 3 es18,.slc 3 es19,iN n20,iN n21]]/\Q (.tup [iN n16,iN n17]) [])))))
theorem s23 (p:TRoProgramme) (v:AV) (O:List (List AV)) (h:R23 p Sp Fo So (fun r O'=>r=v/\O'=O)):Sp 23 [p.av] [] v O :=
 yj (w:=⟨[],[],[73],[],[]⟩) (k:=0) (keep:=⟨[0,1,2,3,4,5,16],[],[],[]⟩) (boxes:=[]) mixed (by exact trivial) Tryz.func23 Tryz.call23 rfl rfl rfl (Nat.le_of_ble_eq_true rfl) (by kernel_rfl) h
theorem c23 (p:TRoProgramme) (hp:Ub p):Sp 23 [p.av] [] (.tup [.int .i64 (vw p).1,.int .i64 (vw p).2]) []:=s23 p _ _ (by
 unfold R23 vw;simp only[List.length_map];refine⟨fun h=>⟨by rw[if_pos (by have:=zt_ h;omega)],by trivial⟩,fun h1=>?_⟩;have h1:¬ p.Assets.length>6:=by have:=zf_ h1;omega
 rw[if_neg h1];refine⟨fun h=>⟨by rw[if_pos (by have:=zt_ h;omega)],by trivial⟩,fun h2=>?_⟩;have h2:¬ p.Budgets.length>3:=by have:=zf_ h2;omega
 rw[if_neg h2];refine⟨_,c53 ..,fun h=>⟨by rw[if_pos h],by trivial⟩,fun h3=>?_⟩;rw[if_neg (by rw[h3];simp)];refine⟨_,c53 ..,fun h=>⟨by rw[if_pos h],by trivial⟩,fun h4=>?_⟩;rw[if_neg (by rw[h4];simp)];refine⟨_,zbE p.Budgets (by omega),fun h=>⟨by rw[if_pos h],by trivial⟩,fun h5=>?_⟩;rw[if_neg (by rw[h5];simp)];exact⟨_,_,_,_,_,_,c75 p.Assets (by omega) hp p,rfl,by trivial⟩)
def GA (nb period days first last rate harm:Int):Int:=wrap i64 ((wrap i64 (wrap i64 (wrap i64 (wrap i64 (nb-period)*days)*wrap i64 (wrap i64 (first+wrap i64 (period*days))-last))*wrap i64 (rate*harm))).tdiv 1000000000)
def YF (p:TRoProgramme) (x:TRoAsset) (period:Int):Int:=GA p.Budgets.length period p.Days p.First x.Last x.Rate x.Harm
def R80 (p:TRoProgramme) (x:TRoAsset) (period:Int) (_S:SpecF) (_Fr:FreshF) (_Sq:SeqF) (Q:ym):Prop :=
 Q (iN (wrap i64 ((wrap i64 (wrap i64 (wrap i64 (wrap i64 ((↑(List.map (AV.int i64) p.Budgets).length:Int)-period)*p.Days)*wrap i64 (wrap i64 (p.First+wrap i64 (period*p.Days))-x.Last))*wrap i64 (x.Rate*x.Harm))).tdiv (1000000000:Int)))) []
theorem s80 (p:TRoProgramme) (x:TRoAsset) (period:Int) (v:AV) (O:List (List AV)) (h:R80 p x period Sp Fo So (fun r O'=>r=v/\O'=O)):Sp 80 [p.av,x.av,iN period] [] v O :=
 yj (w:=⟨[],[],[],[],[]⟩) (k:=0) (keep:=⟨[0,1,2,3,4,6,7,8],[],[],[]⟩) (boxes:=[]) mixed (by exact trivial) Tryz.func80 Tryz.call80 rfl rfl rfl (Nat.le_of_ble_eq_true rfl) (by kernel_rfl) h
theorem c80 (p:TRoProgramme) (x:TRoAsset) (period:Int):Sp 80 [p.av,x.av,.int .i64 period] [] (.int .i64 (YF p x period)) []:=s80 p x period _ _ (by
 unfold R80 YF GA;rw[List.length_map];exact⟨rfl,by trivial⟩)
def Xa (p:TRoProgramme) (k:Int):TRoAsset:=p.Assets.getD k.toNat TRoAsset.zero
theorem MV {p:TRoProgramme} {k:Int} (h0:0<=k) (h:k<p.Assets.length):(p.Assets.map TRoAsset.av)[k.toNat]? = some (Xa p k).av/\Xa p k∈p.Assets:=by
 have hl:k.toNat<p.Assets.length:=by omega
 unfold Xa;rw[List.getElem?_map,List.getD_eq_getElem?_getD,List.getElem?_eq_getElem hl];exact⟨rfl,List.getElem_mem hl⟩
theorem P2 {p:TRoProgramme} (h:(vw p).2=0):p.Assets.length<=6/\p.Budgets.length<=3:=by
 unfold vw at h;by_cases h0:p.Assets.length>6
 ·rw[if_pos h0] at h;exact absurd h (by simp)
 rw[if_neg h0] at h;by_cases h1:p.Budgets.length>3
 ·rw[if_pos h1] at h;exact absurd h (by simp)
 omega
def xx (p:TRoProgramme) (asset period:Int):Int × Int :=
 if (vw p).2≠0 then (0,(vw p).2) else if qa asset 0 ((p.Assets.length:Int)-1) then (0,4) else if qa period 0 ((p.Budgets.length:Int)-1) then (0,4) else (YF p (Xa p asset) period,0)
theorem P1 {n lo hi:Int}:qa n lo hi=false↔lo<=n/\n<=hi:=by
 unfold qa;rw[Bool.or_eq_false_iff,decide_eq_false_iff_not,decide_eq_false_iff_not];omega
def R25 (p:TRoProgramme) (asset period:Int) (S:SpecF) (_Fr:FreshF) (_Sq:SeqF) (Q:ym):Prop :=
 ∃n0 n1,S 23 [p.av] [] (.tup [iN n0,iN n1]) []/\((n1 != 0)=true->Q (.tup [iN 0,iN n1]) [])/\((n1 != 0)=false->∃b5,S 53 [iN asset,iN 0,iN (wrap i64 ((↑(List.map TRoAsset.av p.Assets).length:Int)-(1:Int)))] [] (.bool b5) []/\(b5=true->Q (.tup [iN 0,iN 4]) [])/\(b5=false->∃b9,S 53 [iN period,iN 0,iN (wrap i64 ((↑(List.map (AV.int i64) p.Budgets).length:Int)-(1:Int)))] [] (.bool b9) []/\(b9=true->Q (.tup [iN 0,iN 4]) [])/\(b9=false->∃s13 n14 n15 n16 n17,((0:Int)<=asset/\(5:Nat)=(5:Nat)/\(List.map TRoAsset.av p.Assets)[asset.toNat]? = some (.agg [AV.str s13,iN n14,iN n15,iN n16,iN n17]))/\∃n19,S 80 [p.av,.agg [AV.str s13,iN n14,iN n15,iN n16,iN n17],iN period] [] (iN n19) []/\Q (.tup [iN n19,iN 0]) [])))
theorem s25 (p:TRoProgramme) (asset:Int) (period:Int) (v:AV) (O:List (List AV)) (h:R25 p asset period Sp Fo So (fun r O'=>r=v/\O'=O)):Sp 25 [p.av,iN asset,iN period] [] v O :=
 yj (w:=⟨[],[],[],[],[]⟩) (k:=0) (keep:=⟨[0,1,2,3,6,7,9,15,19],[],[],[]⟩) (boxes:=[]) mixed (by exact trivial) Tryz.func25 Tryz.call25 rfl rfl rfl (Nat.le_of_ble_eq_true rfl) (by kernel_rfl) h
theorem c25 (p:TRoProgramme) (hp:Ub p) (asset period:Int):Sp 25 [p.av,.int .i64 asset,.int .i64 period] [] (.tup [.int .i64 (xx p asset period).1,.int .i64 (xx p asset period).2]) []:=s25 p asset period _ _ (by
 unfold R25 xx;simp only[List.length_map];refine⟨_,_,c23 p hp,fun h=>⟨by rw[if_pos (by simpa using h)],by trivial⟩,fun h=>?_⟩;rw[if_neg (by simpa using h)];obtain ⟨l1,l2⟩:=P2 (p:=p) (by simpa using h);rw[zw6 (by omega),zw6 (by omega)];refine⟨_,c53 ..,fun h=>⟨by rw[if_pos h],by trivial⟩,fun h1=>?_⟩;rw[if_neg (by rw[h1];simp)];refine⟨_,c53 ..,fun h=>⟨by rw[if_pos h],by trivial⟩,fun h2=>?_⟩;rw[if_neg (by rw[h2];simp)];obtain ⟨g1,g2⟩:=P1.1 h1;exact⟨_,_,_,_,_,⟨g1,by trivial,(MV g1 (by omega)).1⟩,_,c80 p (Xa p asset) period,rfl,by trivial⟩)
def QN:List Int->List Int->Int->Int
 |n::r,b::s,a=>QN r s (wrap i64 (a+wrap i64 (n*b)))
 |[],_,a=>a
 |_::_,[],a=>a
def Wu (p:TRoProgramme) (x:TRoAsset):List Int->Nat->Int->Int
 |[],_,a=>a
 |n::r,i,a=>Wu p x r (i+1) (Qv a (wrap i64 (wrap i64 (1000*YF p x i)-wrap i64 (n*x.Cost))))
def OH (p:TRoProgramme) (prices:List Int):List TRoAsset->Int->Int
 |[],a=>a
 |x::r,a=>OH p prices r (wrap i64 (a+Wu p x prices 0 0))
theorem HX {P B:List Int} {k:Nat} {n b:Int} (hn:P[k]? = some n) (hb:B[k]? = some b) (a:Int):QN (P.drop k) (B.drop k) a=QN (P.drop (k+1)) (B.drop (k+1)) (wrap i64 (a+wrap i64 (n*b))):=by
 obtain ⟨h1,rfl⟩:=List.getElem?_eq_some_iff.1 hn;obtain ⟨h2,rfl⟩:=List.getElem?_eq_some_iff.1 hb;rw[List.drop_eq_getElem_cons h1,List.drop_eq_getElem_cons h2];rfl
theorem JH {p:TRoProgramme} {x:TRoAsset} {P:List Int} {k:Nat} {n:Int} (hn:P[k]? = some n) (a:Int):Wu p x (P.drop k) k a=Wu p x (P.drop (k+1)) (k+1) (Qv a (wrap i64 (wrap i64 (1000*YF p x k)-wrap i64 (n*x.Cost)))):=by
 obtain ⟨h1,rfl⟩:=List.getElem?_eq_some_iff.1 hn;rw[List.drop_eq_getElem_cons h1];rfl
theorem IA {p:TRoProgramme} {Q:List Int} {L:List TRoAsset} {k:Nat} {x:TRoAsset} (hn:L[k]? = some x) (a:Int):OH p Q (L.drop k) a=OH p Q (L.drop (k+1)) (wrap i64 (a+Wu p x Q 0 0)):=by
 obtain ⟨h1,rfl⟩:=List.getElem?_eq_some_iff.1 hn;rw[List.drop_eq_getElem_cons h1];rfl
def Um (p:TRoProgramme) (prices:List Int):Int × Int :=
 if (vw p).2≠0 then (0,(vw p).2) else if prices.length≠p.Budgets.length then (0,2) else if prices.any YY then (0,7) else (wrap i64 ((OH p prices p.Assets (QN prices p.Budgets 0)).tdiv 1000),0)
def R33 (p:TRoProgramme) (prices:List Int) (S:SpecF) (_Fr:FreshF) (_Sq:SeqF) (Q:ym):Prop :=
 ∃n0 n1,S 23 [p.av] [] (.tup [iN n0,iN n1]) []/\((n1 != 0)=true->Q (.tup [iN 0,iN n1]) [])/\((n1 != 0)=false->(((↑(List.map (AV.int i64) prices).length:Int) != (↑(List.map (AV.int i64) p.Budgets).length:Int))=true->Q (.tup [iN 0,iN 2]) [])/\(((↑(List.map (AV.int i64) prices).length:Int) != (↑(List.map (AV.int i64) p.Budgets).length:Int))=false->∃b7,S 73 [AV.slc 3 (List.map (AV.int i64) prices),AV.fn (87:Nat) [] []] [] (.bool b7) []/\(b7=true->Q (.tup [iN 0,iN 7]) [])/\(b7=false->∃(I11:Nat->List AV->Prop),(∃m13,I11 m13 TEncl.zero.cs)/\∀(m13:Nat) (n14 n15:Int),I11 m13 [iN n14,iN n15]->(decide (n15<(↑(List.map (AV.int i64) prices).length:Int))=true->∃n19,((0:Int)<=n15/\(1:Nat)=(1:Nat)/\(List.map (AV.int i64) prices)[n15.toNat]? = some (iN n19))/\∃n21,((0:Int)<=n15/\(1:Nat)=(1:Nat)/\(List.map (AV.int i64) p.Budgets)[n15.toNat]? = some (iN n21))/\p.cs=p.cs/\∃k24,k24<m13/\I11 k24 [iN (wrap i64 (n14+wrap i64 (n19*n21))),iN (wrap i64 (n15+1))])/\(decide (n15<(↑(List.map (AV.int i64) prices).length:Int))=false->∃(I19:Nat->List AV->Prop),(∃m21,I19 m21 [iN n14,iN 0])/\∀(m21:Nat) (n22 n23:Int),I19 m21 [iN n22,iN n23]->(decide (n23<(↑(List.map TRoAsset.av p.Assets).length:Int))=true->∃s27 n28 n29 n30 n31,((0:Int)<=n23/\(5:Nat)=(5:Nat)/\(List.map TRoAsset.av p.Assets)[n23.toNat]? = some (.agg [AV.str s27,iN n28,iN n29,iN n30,iN n31]))/\∃(I33:Nat->List AV->Prop),(∃m35,I33 m35 TEncl.zero.cs)/\∀(m35:Nat) (n36 n37:Int),I33 m35 [iN n36,iN n37]->(decide (n37<(↑(List.map (AV.int i64) prices).length:Int))=true->∃n41,((0:Int)<=n37/\(1:Nat)=(1:Nat)/\(List.map (AV.int i64) prices)[n37.toNat]? = some (iN n41))/\∃n43,S 80 [p.av,.agg [AV.str s27,iN n28,iN n29,iN n30,iN n31],iN n37] [] (iN n43) []/\p.cs=p.cs/\yn [AV.str s27,iN n28,iN n29,iN n30,iN n31]/\∃k47,k47<m35/\I33 k47 [iN (if IntKind.i64.wrap (wrap i64 ((1000:Int)*n43)-wrap i64 (n41*n28))>n36 then wrap i64 (wrap i64 ((1000:Int)*n43)-wrap i64 (n41*n28)) else n36),iN (wrap i64 (n37+1))])/\(decide (n37<(↑(List.map (AV.int i64) prices).length:Int))=false->p.cs=p.cs/\∃k42,k42<m21/\I19 k42 [iN (wrap i64 (n22+n36)),iN (wrap i64 (n23+1))]))/\(decide (n23<(↑(List.map TRoAsset.av p.Assets).length:Int))=false->Q (.tup [iN (wrap i64 (n22.tdiv (1000:Int))),iN 0]) [])))))
theorem s33 (p:TRoProgramme) (prices:List Int) (v:AV) (O:List (List AV)) (h:R33 p prices Sp Fo So (fun r O'=>r=v/\O'=O)):Sp 33 [p.av,.slc 3 (List.map (AV.int .i64) prices)] [] v O :=
 yj (w:=⟨[],[],[73],[],[]⟩) (k:=0) (keep:=⟨[0,1,2,4,5,7,8,9,10,12,13,14,15,21,25,32,35,36,37,38,53,54,55,56,59,60,61,62],[⟨10,[(8,iN 0),(37,iN 0)],[],[],[],[],[]⟩,⟨15,[(8,iN 0),(55,iN 0)],[],[],[],[],[]⟩,⟨19,[(13,iN 0),(61,iN 0)],[],[],[],[],[]⟩],[],[]⟩) (boxes:=[]) mixed (by exact trivial) Tryz.func33 Tryz.call33 rfl rfl rfl (Nat.le_of_ble_eq_true rfl) (by kernel_rfl) h
theorem c33 (p:TRoProgramme) (hp:Ub p) (prices:List Int):Sp 33 [p.av,.slc 3 (prices.map (AV.int .i64))] [] (.tup [.int .i64 (Um p prices).1,.int .i64 (Um p prices).2]) []:=s33 p prices _ _ (by
 unfold R33 Um;simp only[List.length_map];refine⟨_,_,c23 p hp,fun h=>⟨by rw[if_pos (by simpa using h)],by trivial⟩,fun h=>?_⟩;rw[if_neg (by simpa using h)];obtain ⟨l1,l2⟩:=P2 (p:=p) (by simpa using h);have hd:((prices.length:Int) != (p.Budgets.length:Int))=decide (prices.length≠p.Budgets.length):=by rw[Bool.eq_iff_iff];simp;omega
 rw[hd];refine⟨fun h=>⟨by rw[if_pos (zt_ h)],by trivial⟩,fun h1=>?_⟩;have h1:=zf_ h1;rw[if_neg h1];have h1:prices.length=p.Budgets.length:=Decidable.not_not.1 h1;refine⟨_,zbF prices (by omega),fun h=>⟨by rw[if_pos h],by trivial⟩,fun h2=>?_⟩;rw[if_neg (by rw[h2];simp)];refine⟨fun m vs=>∃(k:Nat) (a:Int),vs=[.int .i64 a,.int .i64 k]/\k<=prices.length/\m=prices.length-k/\QN (prices.drop k) (p.Budgets.drop k) a=QN prices p.Budgets 0,⟨_,0,0,rfl,by omega,rfl,rfl⟩,?_⟩;rintro m n14 n15 ⟨k,a,hk,hle,rfl,hs⟩;cases hk;refine⟨fun h3=>?_,fun h3=>?_⟩
 ·have h3:k<prices.length:=by have:=zt_ h3;omega
  obtain ⟨n,hn,hn'⟩:=yH (f:=AV.int .i64) h3;obtain ⟨b,hb,hb'⟩:=yH (f:=AV.int .i64) (l:=p.Budgets) (k:=k) (by omega);exact⟨_,⟨by omega,by trivial,hn'⟩,_,⟨by omega,by trivial,hb'⟩,by trivial,_,(by omega:prices.length-(k+1)<prices.length-k),k+1,_,by rw[yx (by omega)],by omega,rfl,by rw[<- hs,HX hn hb]⟩
 ·have h3:k=prices.length:=by have:=zf_ h3;omega
  subst h3;have hs:n14=QN prices p.Budgets 0:=by rw[<- hs,List.drop_length];rfl
  subst hs;refine⟨fun m vs=>∃(k:Nat) (a:Int),vs=[.int .i64 a,.int .i64 k]/\k<=p.Assets.length/\m=p.Assets.length-k/\OH p prices (p.Assets.drop k) a=OH p prices p.Assets (QN prices p.Budgets 0),⟨_,0,_,rfl,by omega,rfl,rfl⟩,?_⟩;rintro m n22 n23 ⟨k,a,hk,hle,rfl,hs⟩;cases hk;refine⟨fun h3=>?_,fun h3=>?_⟩
  ·have h3:k<p.Assets.length:=by have:=zt_ h3;omega
   obtain ⟨x,hx,hx'⟩:=yH (f:=TRoAsset.av) h3;refine⟨_,_,_,_,_,⟨by omega,by trivial,hx'⟩,?_⟩;refine⟨fun m vs=>∃(j:Nat) (a:Int),vs=[.int .i64 a,.int .i64 j]/\j<=prices.length/\m=prices.length-j/\Wu p x (prices.drop j) j a=Wu p x prices 0 0,⟨_,0,0,rfl,by omega,rfl,rfl⟩,?_⟩;rintro m n36 n37 ⟨j,a',hj,hjl,rfl,hs'⟩;cases hj;refine⟨fun h4=>?_,fun h4=>?_⟩
   ·have h4:j<prices.length:=by have:=zt_ h4;omega
    obtain ⟨n,hn,hn'⟩:=yH (f:=AV.int .i64) h4;exact⟨_,⟨by omega,by trivial,hn'⟩,_,c80 p x (j:Int),by trivial,by trivial,_,(by omega:prices.length-(j+1)<prices.length-j),j+1,_,by rw[yx (by omega)],by omega,rfl,by rw[<- hs',JH hn];rfl⟩
   ·have h4:j=prices.length:=by have:=zf_ h4;omega
    subst h4;have hs':n36=Wu p x prices 0 0:=by rw[<- hs',List.drop_length];rfl
    subst hs';exact⟨by trivial,_,(by omega:p.Assets.length-(k+1)<p.Assets.length-k),k+1,_,by rw[yx (by omega)],by omega,rfl,by rw[<- hs,IA hx]⟩
  ·have h3:k=p.Assets.length:=by have:=zf_ h3;omega
   subst h3;have hs:n22=OH p prices p.Assets (QN prices p.Budgets 0):=by rw[<- hs,List.drop_length];rfl
   rw[hs];exact⟨rfl,by trivial⟩)
end Go.Proofs.YtdeeekgohhkdbaaGreatDoor

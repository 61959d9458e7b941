/- Contracts: depots and tours: small functions. Contracts: programmes. -/
import Derived.Test.YtdeeekgohhkdbaaGreatDoorRb
namespace Go.Proofs.YtdeeekgohhkdbaaGreatDoor
open Go.RowKit
def xo (a b:Int):Int:=if b>a then b else a
def uM (a b:Int):Int:=if b<a then b else a
def yO (a b:TRoSpan):TRoSpan:=if xo a.From b.From>uM a.Until b.Until then ⟨1,0⟩ else ⟨xo a.From b.From,uM a.Until b.Until⟩
def R98 (a b:TRoSpan) (_S:SpecF) (_Fr:FreshF) (_Sq:SeqF) (Q:yj):Prop :=
 (decide ((if true=true then if b.From>a.From then b.From else a.From else if b.From<a.From then b.From else a.From)>if false=true then if b.Until>a.Until then b.Until else a.Until else if b.Until<a.Until then b.Until else a.Until)=true->Q (.agg [iN 1,iN 0]) [])/\(decide ((if true=true then if b.From>a.From then b.From else a.From else if b.From<a.From then b.From else a.From)>if false=true then if b.Until>a.Until then b.Until else a.Until else if b.Until<a.Until then b.Until else a.Until)=false->Q (.agg [iN (if b.From>a.From then b.From else a.From),iN (if b.Until<a.Until then b.Until else a.Until)]) [])
theorem s98 (a:TRoSpan) (b:TRoSpan) (v:AV) (O:List (List AV)) (h:R98 a b Sp Fo So (fun r O'=>r=v/\O'=O)):Sp 98 [a.av,b.av] [] v O :=
 ye (w:=⟨[],[],[],[],[]⟩) (k:=0) (keep:=⟨[0,1,2,3,4,20],[],[],[]⟩) (boxes:=[]) mixed (by exact trivial) Tryz.func98 Tryz.call98 rfl rfl rfl (Nat.le_of_ble_eq_true rfl) (by kernel_rfl) h
theorem c98 (a b:TRoSpan):Sp 98 [a.av,b.av] [] (yO a b).av []:=s98 a b _ _ (by
 unfold R98
 refine ⟨fun h=>⟨?_,by trivial⟩,fun h=>⟨?_,by trivial⟩⟩
 ·have h:xo a.From b.From>uM a.Until b.Until:=zt_ h
  unfold yO; rw [if_pos h]; rfl
 ·have h:¬ xo a.From b.From>uM a.Until b.Until:=zf_ h
  unfold yO; rw [if_neg h]; rfl)
def yZ (t:TRoTask) (k:Int):TRoJob:=t.Jobs.getD k.toNat TRoJob.zero
theorem wZ {t:TRoTask} {k:Int} (h0:0<=k) (h:k<t.Jobs.length):(t.Jobs.map TRoJob.av)[k.toNat]?=some (yZ t k).av/\yZ t k∈t.Jobs:=by
 have hl:k.toNat<t.Jobs.length:=by omega
 unfold yZ
 rw [List.getElem?_map,List.getD_eq_getElem?_getD,List.getElem?_eq_getElem hl]
 exact ⟨rfl,List.getElem_mem hl⟩
def Wh (t:TRoTask) (k:Int):TRoLorry:=t.Lorries.getD k.toNat TRoLorry.zero
theorem O0 {t:TRoTask} {k:Int} (h0:0<=k) (h:k<t.Lorries.length):(t.Lorries.map TRoLorry.av)[k.toNat]?=some (Wh t k).av/\Wh t k∈t.Lorries:=by
 have hl:k.toNat<t.Lorries.length:=by omega
 unfold Wh
 rw [List.getElem?_map,List.getD_eq_getElem?_getD,List.getElem?_eq_getElem hl]
 exact ⟨rfl,List.getElem_mem hl⟩
def xy (d:TDepot) (k:Int):TRoSpan:=d.spans.getD k.toNat TRoSpan.zero
theorem KP {d:TDepot} {k:Int} (h0:0<=k) (h:k<d.spans.length):(d.spans.map TRoSpan.av)[k.toNat]?=some (xy d k).av:=by
 have hl:k.toNat<d.spans.length:=by omega
 unfold xy
 rw [List.getElem?_map,List.getD_eq_getElem?_getD,List.getElem?_eq_getElem hl]; rfl
def atX (t:TRoTask) (k:Int):Int:=if k>=0 then (yZ t k).X else t.X
def atY (t:TRoTask) (k:Int):Int:=if k>=0 then (yZ t k).Y else t.Y
def HA (x y u v p:Int):Int:=IntKind.i64.wrap ((IntKind.i64.wrap (IntKind.i64.wrap (IntKind.i64.wrap (IntKind.i64.wrap (IntKind.i64.wrap (xo x u-uM x u)+xo y v)-uM y v)*p)+999)).tdiv 1000)
def vG (t:TRoTask) (k n:Int):Int:=HA (atX t k) (atY t k) (atX t n) (atY t n) t.Pace
theorem WA {t:TRoTask} {k:Int} (h:k>=0):atX t k=(yZ t k).X:=if_pos h
theorem WC {t:TRoTask} {k:Int} (h:k>=0):atY t k=(yZ t k).Y:=if_pos h
theorem Wz {t:TRoTask} {k:Int} (h:¬ k>=0):atX t k=t.X:=if_neg h
theorem WB {t:TRoTask} {k:Int} (h:¬ k>=0):atY t k=t.Y:=if_neg h
def R82 (d:TDepot) (k n:Int) (_S:SpecF) (_Fr:FreshF) (_Sq:SeqF) (Q:yj):Prop :=
 (decide (k>=0)=true->∃ s2 n3 n4 n5 n6 es7 n8 b9 n10,((0:Int)<=k/\(9:Nat)=(9:Nat)/\(List.map TRoJob.av d.RoTask.Jobs)[k.toNat]?=some (.agg [AV.str s2,iN n3,iN n4,iN n5,iN n6,.slc 3 es7,iN n8,.bool b9,iN n10]))/\∃ s12 n13 n14 n15 n16 es17 n18 b19 n20,((0:Int)<=k/\(9:Nat)=(9:Nat)/\(List.map TRoJob.av d.RoTask.Jobs)[k.toNat]?=some (.agg [AV.str s12,iN n13,iN n14,iN n15,iN n16,.slc 3 es17,iN n18,.bool b19,iN n20]))/\(decide (n>=0)=true->∃ s24 n25 n26 n27 n28 es29 n30 b31 n32,((0:Int)<=n/\(9:Nat)=(9:Nat)/\(List.map TRoJob.av d.RoTask.Jobs)[n.toNat]?=some (.agg [AV.str s24,iN n25,iN n26,iN n27,iN n28,.slc 3 es29,iN n30,.bool b31,iN n32]))/\∃ s34 n35 n36 n37 n38 es39 n40 b41 n42,((0:Int)<=n/\(9:Nat)=(9:Nat)/\(List.map TRoJob.av d.RoTask.Jobs)[n.toNat]?=some (.agg [AV.str s34,iN n35,iN n36,iN n37,iN n38,.slc 3 es39,iN n40,.bool b41,iN n42]))/\Q (iN (IntKind.i64.wrap ((IntKind.i64.wrap (IntKind.i64.wrap (IntKind.i64.wrap (IntKind.i64.wrap (IntKind.i64.wrap ((if n25>n3 then n25 else n3)-if n25<n3 then n25 else n3)+if n36>n14 then n36 else n14)-if n36<n14 then n36 else n14)*d.RoTask.Pace)+999)).tdiv (1000:Int)))) [])/\(decide (n>=0)=false->Q (iN (IntKind.i64.wrap ((IntKind.i64.wrap (IntKind.i64.wrap (IntKind.i64.wrap (IntKind.i64.wrap (IntKind.i64.wrap ((if d.RoTask.X>n3 then d.RoTask.X else n3)-if d.RoTask.X<n3 then d.RoTask.X else n3)+if d.RoTask.Y>n14 then d.RoTask.Y else n14)-if d.RoTask.Y<n14 then d.RoTask.Y else n14)*d.RoTask.Pace)+999)).tdiv (1000:Int)))) []))/\(decide (k>=0)=false->(decide (n>=0)=true->∃ s4 n5 n6 n7 n8 es9 n10 b11 n12,((0:Int)<=n/\(9:Nat)=(9:Nat)/\(List.map TRoJob.av d.RoTask.Jobs)[n.toNat]?=some (.agg [AV.str s4,iN n5,iN n6,iN n7,iN n8,.slc 3 es9,iN n10,.bool b11,iN n12]))/\∃ s14 n15 n16 n17 n18 es19 n20 b21 n22,((0:Int)<=n/\(9:Nat)=(9:Nat)/\(List.map TRoJob.av d.RoTask.Jobs)[n.toNat]?=some (.agg [AV.str s14,iN n15,iN n16,iN n17,iN n18,.slc 3 es19,iN n20,.bool b21,iN n22]))/\Q (iN (IntKind.i64.wrap ((IntKind.i64.wrap (IntKind.i64.wrap (IntKind.i64.wrap (IntKind.i64.wrap (IntKind.i64.wrap ((if n5>d.RoTask.X then n5 else d.RoTask.X)-if n5<d.RoTask.X then n5 else d.RoTask.X)+if n16>d.RoTask.Y then n16 else d.RoTask.Y)-if n16<d.RoTask.Y then n16 else d.RoTask.Y)*d.RoTask.Pace)+999)).tdiv (1000:Int)))) [])/\(decide (n>=0)=false->Q (iN (IntKind.i64.wrap ((IntKind.i64.wrap (IntKind.i64.wrap (IntKind.i64.wrap (IntKind.i64.wrap (IntKind.i64.wrap ((if d.RoTask.X>d.RoTask.X then d.RoTask.X else d.RoTask.X)-if d.RoTask.X<d.RoTask.X then d.RoTask.X else d.RoTask.X)+if d.RoTask.Y>d.RoTask.Y then d.RoTask.Y else d.RoTask.Y)-if d.RoTask.Y<d.RoTask.Y then d.RoTask.Y else d.RoTask.Y)*d.RoTask.Pace)+999)).tdiv (1000:Int)))) []))
theorem s82 (d:TDepot) (k:Int) (n:Int) (v:AV) (O:List (List AV)) (h:R82 d k n Sp Fo So (fun r O'=>r=v/\O'=O)):Sp 82 [d.ptr,iN k,iN n] [] v O :=
 ye (w:=⟨[],[],[],[],[]⟩) (k:=0) (keep:=⟨[0,1,2,6,7,8,9,10,11,23,53],[],[],[]⟩) (boxes:=[]) mixed (by exact trivial) Tryz.func82 Tryz.call82 rfl rfl rfl (Nat.le_of_ble_eq_true rfl) (by kernel_rfl) h
theorem c82 (d:TDepot) (k n:Int) (hk:k<d.RoTask.Jobs.length) (hn:n<d.RoTask.Jobs.length):Sp 82 [d.ptr,.int .i64 k,.int .i64 n] [] (.int .i64 (vG d.RoTask k n)) []:=s82 d k n _ _ (by
 unfold R82 vG
 refine ⟨fun h=>?_,fun h=>?_⟩
 ·have h:k>=0:=zt_ h
  have hj:=(wZ h hk).1
  rw [WA h,WC h]
  refine ⟨_,_,_,_,_,_,_,_,_,⟨h,by trivial,hj⟩,_,_,_,_,_,_,_,_,_,⟨h,by trivial,hj⟩,fun g=>?_,fun g=>?_⟩
  ·have g:n>=0:=zt_ g
   have hj':=(wZ g hn).1
   rw [WA g,WC g]
   exact ⟨_,_,_,_,_,_,_,_,_,⟨g,by trivial,hj'⟩,_,_,_,_,_,_,_,_,_,⟨g,by trivial,hj'⟩,rfl,by trivial⟩
  ·rw [Wz (zf_ g),WB (zf_ g)]
   exact ⟨rfl,by trivial⟩
 ·rw [Wz (zf_ h),WB (zf_ h)]
  refine ⟨fun g=>?_,fun g=>?_⟩
  ·have g:n>=0:=zt_ g
   have hj':=(wZ g hn).1
   rw [WA g,WC g]
   exact ⟨_,_,_,_,_,_,_,_,_,⟨g,by trivial,hj'⟩,_,_,_,_,_,_,_,_,_,⟨g,by trivial,hj'⟩,rfl,by trivial⟩
  ·rw [Wz (zf_ g),WB (zf_ g)]
   exact ⟨rfl,by trivial⟩)
def yI (d:TDepot) (k:Int):TTour:=⟨Wh d.RoTask k,d.ptr,(Wh d.RoTask k).From,-1,[],(Wh d.RoTask k).Room,0,0⟩
def R57 (d:TDepot) (k:Int) (_S:SpecF) (_Fr:FreshF) (_Sq:SeqF) (Q:yj):Prop :=
 ∃ s0 n1 n2 n3 n4 n5,((0:Int)<=k/\(6:Nat)=(6:Nat)/\(List.map TRoLorry.av d.RoTask.Lorries)[k.toNat]?=some (.agg [AV.str s0,iN n1,iN n2,iN n3,iN n4,iN n5]))/\Q (.agg [AV.str s0,iN n1,iN n2,iN n3,iN n4,iN n5,.eptr d.cs (0:Nat),iN n3,iN (-1:Int),.slc 3 [],iN n2,iN 0,iN 0]) []
theorem s57 (d:TDepot) (k:Int) (v:AV) (O:List (List AV)) (h:R57 d k Sp Fo So (fun r O'=>r=v/\O'=O)):Sp 57 [d.ptr,iN k] [] v O :=
 ye (w:=⟨[],[],[],[],[]⟩) (k:=0) (keep:=⟨[0,1,4,5],[],[],[]⟩) (boxes:=[]) mixed (by exact trivial) Tryz.func57 Tryz.call57 rfl rfl rfl (Nat.le_of_ble_eq_true rfl) (by kernel_rfl) h
theorem c57 (d:TDepot) (k:Int) (h0:0<=k) (hk:k<d.RoTask.Lorries.length):Sp 57 [d.ptr,.int .i64 k] [] (yI d k).av [] :=
 s57 d k _ _ ⟨_,_,_,_,_,_,⟨h0,by trivial,(O0 h0 hk).1⟩,rfl,rfl⟩
def wm (d:TDepot) (r:TTour):Int:=IntKind.i64.wrap (r.now+vG d.RoTask r.last (-1))
def R59 (d:TDepot) (r:TTour) (S:SpecF) (_Fr:FreshF) (_Sq:SeqF) (Q:yj):Prop :=
 ∃ n0,S 82 [AV.eptr d.cs (0:Nat),iN (r.on d).last,iN (-1:Int)] [] (iN n0) []/\Q (iN (IntKind.i64.wrap ((r.on d).now+n0))) [[AV.str (r.on d).RoLorry.Name,iN (r.on d).RoLorry.Lift,iN (r.on d).RoLorry.Room,iN (r.on d).RoLorry.From,iN (r.on d).RoLorry.Until,iN (r.on d).RoLorry.PerHour,.eptr d.cs (0:Nat),iN (r.on d).now,iN (r.on d).last,.slc 3 (List.map TRoStop.av (r.on d).stops),iN (r.on d).room,iN (r.on d).price,iN (r.on d).value]]
theorem s59 (d:TDepot) (r:TTour) (v:AV) (O:List (List AV)) (h:R59 d r Sp Fo So (fun r O'=>r=v/\O'=O)):Sp 59 [.ref 0 0] [(r.on d).cs] v O :=
 ye (w:=⟨[],[],[],[],[]⟩) (k:=0) (keep:=⟨[0,2],[],[],[]⟩) (boxes:=[⟨131,false,(r.on d).cs⟩]) mixed (by exact trivial) Tryz.func59 Tryz.call59 rfl rfl rfl (Nat.le_of_ble_eq_true rfl) (by kernel_rfl) h
theorem c59 (d:TDepot) (r:TTour) (hl:r.last<d.RoTask.Jobs.length):Sp 59 [.ref 0 0] [(r.on d).cs] (.int .i64 (wm d r)) [(r.on d).cs] :=
 s59 d r _ _ ⟨_,c82 d r.last (-1) hl (by omega),rfl,rfl⟩
def xi (d:TDepot) (r:TTour):Int:=if r.last<0 then 0 else IntKind.i64.wrap (r.price+IntKind.i64.wrap ((IntKind.i64.wrap (IntKind.i64.wrap (IntKind.i64.wrap (wm d r-r.RoLorry.From)*r.RoLorry.PerHour)+3599)).tdiv 3600))
def HE (d:TDepot) (r:TTour) (S:SpecF) (_Fr:FreshF) (_Sq:SeqF) (Q:yj):Prop :=
 (decide ((r.on d).last<(0:Int))=true->Q (iN 0) [[AV.str (r.on d).RoLorry.Name,iN (r.on d).RoLorry.Lift,iN (r.on d).RoLorry.Room,iN (r.on d).RoLorry.From,iN (r.on d).RoLorry.Until,iN (r.on d).RoLorry.PerHour,.eptr d.cs (0:Nat),iN (r.on d).now,iN (r.on d).last,.slc 3 (List.map TRoStop.av (r.on d).stops),iN (r.on d).room,iN (r.on d).price,iN (r.on d).value]])/\(decide ((r.on d).last<(0:Int))=false->∃ n2,S 59 [AV.ref 0 0] [[AV.str (r.on d).RoLorry.Name,iN (r.on d).RoLorry.Lift,iN (r.on d).RoLorry.Room,iN (r.on d).RoLorry.From,iN (r.on d).RoLorry.Until,iN (r.on d).RoLorry.PerHour,.eptr d.cs (0:Nat),iN (r.on d).now,iN (r.on d).last,.slc 3 (List.map TRoStop.av (r.on d).stops),iN (r.on d).room,iN (r.on d).price,iN (r.on d).value]] (iN n2) [[AV.str (r.on d).RoLorry.Name,iN (r.on d).RoLorry.Lift,iN (r.on d).RoLorry.Room,iN (r.on d).RoLorry.From,iN (r.on d).RoLorry.Until,iN (r.on d).RoLorry.PerHour,.eptr d.cs (0:Nat),iN (r.on d).now,iN (r.on d).last,.slc 3 (List.map TRoStop.av (r.on d).stops),iN (r.on d).room,iN (r.on d).price,iN (r.on d).value]]/\Q (iN (IntKind.i64.wrap ((r.on d).price+IntKind.i64.wrap ((IntKind.i64.wrap (IntKind.i64.wrap (IntKind.i64.wrap (n2-(r.on d).RoLorry.From)*(r.on d).RoLorry.PerHour)+3599)).tdiv (3600:Int))))) [[AV.str (r.on d).RoLorry.Name,iN (r.on d).RoLorry.Lift,iN (r.on d).RoLorry.Room,iN (r.on d).RoLorry.From,iN (r.on d).RoLorry.Until,iN (r.on d).RoLorry.PerHour,.eptr d.cs (0:Nat),iN (r.on d).now,iN (r.on d).last,.slc 3 (List.map TRoStop.av (r.on d).stops),iN (r.on d).room,iN (r.on d).price,iN (r.on d).value]])
theorem EN (d:TDepot) (r:TTour) (v:AV) (O:List (List AV)) (h:HE d r Sp Fo So (fun r O'=>r=v/\O'=O)):Sp 100 [.ref 0 0] [(r.on d).cs] v O :=
 ye (w:=⟨[],[],[59],[],[]⟩) (k:=0) (keep:=⟨[0,2,7],[],[],[]⟩) (boxes:=[⟨131,false,(r.on d).cs⟩]) mixed (by exact trivial) Tryz.func100 Tryz.call100 rfl rfl rfl (Nat.le_of_ble_eq_true rfl) (by kernel_rfl) h
theorem La (d:TDepot) (r:TTour) (hl:r.last<d.RoTask.Jobs.length):Sp 100 [.ref 0 0] [(r.on d).cs] (.int .i64 (xi d r)) [(r.on d).cs]:=EN d r _ _ (by
 unfold HE xi
 refine ⟨fun h=>⟨?_,by trivial⟩,fun h=>⟨_,c59 d r hl,?_,by trivial⟩⟩
 ·have h:r.last<0:=zt_ h
  rw [if_pos h]
 ·have h:¬ r.last<0:=zf_ h
  rw [if_neg h]; rfl)
def HI (s:List TRoStop) (_S:SpecF) (_Fr:FreshF) (_Sq:SeqF) (Q:yj):Prop :=
 ((0:Int)<=(↑(List.map TRoStop.av s).length:Int)/\(↑(List.map TRoStop.av s).length:Int)=(↑(List.map TRoStop.av s).length:Int)/\(↑(List.map TRoStop.av s).length:Int)<=(↑(List.map TRoStop.av s).length:Int))/\Q (.slc 2 (List.take (↑(List.map TRoStop.av s).length:Int).toNat (List.map TRoStop.av s))) []
theorem ES (s:List TRoStop) (v:AV) (O:List (List AV)) (h:HI s Sp Fo So (fun r O'=>r=v/\O'=O)):Sp 108 [.slc 3 (List.map TRoStop.av s)] [] v O :=
 ye (w:=⟨[],[],[],[],[]⟩) (k:=0) (keep:=⟨[0,2],[],[],[]⟩) (boxes:=[]) mixed (by exact trivial) Tryz.func108 Tryz.call108 rfl rfl rfl (Nat.le_of_ble_eq_true rfl) (by kernel_rfl) h
theorem FX (l:List TRoStop):Sp 108 [.slc 3 (l.map TRoStop.av)] [] (.slc 2 (l.map TRoStop.av)) []:=ES l _ _ (by
 unfold HI
 simp only [List.length_map]
 refine ⟨⟨by omega,by trivial,Int.le_refl _⟩,?_,by trivial⟩
 rw [Int.toNat_natCast,List.take_of_length_le (by simp)])
def VS (n:Int):Bool:=qu n 0 10000000
def R74 (n:Int) (S:SpecF) (_Fr:FreshF) (_Sq:SeqF) (Q:yj):Prop :=
 ∃ b0,S 53 [iN n,iN 0,iN 10000000] [] (.bool b0) []/\Q (.bool b0) []
theorem s74 (n:Int) (v:AV) (O:List (List AV)) (h:R74 n Sp Fo So (fun r O'=>r=v/\O'=O)):Sp 74 [iN n] [] v O :=
 ye (w:=⟨[],[],[],[],[]⟩) (k:=0) (keep:=⟨[0,2],[],[],[]⟩) (boxes:=[]) mixed (by exact trivial) Tryz.func74 Tryz.call74 rfl rfl rfl (Nat.le_of_ble_eq_true rfl) (by kernel_rfl) h
theorem c74 (n:Int):Sp 74 [.int .i64 n] [] (.bool (VS n)) []:=s74 n _ _ ⟨_,c53 ..,rfl,rfl⟩
def Ib (s:List Int) (S:SpecF) (_Fr:FreshF) (_Sq:SeqF) (Q:yj):Prop :=
 ∃ (I0:Nat->List AV->Prop),(∃ m2,I0 m2 [iN 0])/\∀ (m2:Nat) (n3:Int),I0 m2 [iN n3]->(decide (n3<(↑(List.map (AV.int IntKind.i64) s).length:Int))=true->∃ n7,((0:Int)<=n3/\(1:Nat)=(1:Nat)/\(List.map (AV.int IntKind.i64) s)[n3.toNat]?=some (iN n7))/\∃ b9,S 74 [iN n7] [] (.bool b9) []/\(b9=true->Q (iN n3) [])/\(b9=false->∃ k13,k13<m2/\I0 k13 [iN (IntKind.i64.wrap (n3+1))]))/\(decide (n3<(↑(List.map (AV.int IntKind.i64) s).length:Int))=false->Q (iN (-1:Int)) [])
theorem GS (s:List Int) (v:AV) (O:List (List AV)) (h:Ib s Sp Fo So (fun r O'=>r=v/\O'=O)):Sp 115 [.slc 3 (List.map (AV.int .i64) s),.fn 74 [] []] [] v O :=
 ye (w:=⟨[],[],[74],[],[]⟩) (k:=0) (keep:=⟨[0,1,4,5,7,8,9,16],[⟨2,[(8,iN 0)],[],[],[],[],[]⟩],[],[]⟩) (boxes:=[]) mixed (by exact trivial) Tryz.func115 Tryz.call115 rfl rfl rfl (Nat.le_of_ble_eq_true rfl) (by kernel_rfl) h
theorem Gi (s:List Int) (hl:s.length<=1000000):Sp 115 [.slc 3 (s.map (AV.int .i64)),.fn 74 [] []] [] (.int .i64 (yV VS 0 s)) []:=GS s _ _ (by
 unfold Ib
 refine ⟨fun m vs=>∃ k:Nat,vs=[.int .i64 k]/\k<=s.length/\m=s.length-k/\yV VS k (s.drop k)=yV VS 0 s,⟨_,0,rfl,by omega,rfl,rfl⟩,?_⟩
 rintro m n ⟨k,hk,hle,rfl,hn⟩
 cases hk
 simp only [List.length_map]
 refine ⟨fun h3=>?_,fun h3=>⟨?_,by trivial⟩⟩
 ·have h3:k<s.length:=by have:=zt_ h3; omega
  obtain ⟨x,hx,hx'⟩:=yE (f:=(AV.int .i64)) h3
  have hat:=jh (f:=VS) hx
  refine ⟨x,⟨by omega,by trivial,hx'⟩,_,c74 x,fun h4=>⟨?_,by trivial⟩,fun h4=>⟨_,?_,k+1,?_,by omega,rfl,?_⟩⟩
  ·rw [<- hn,hat,h4]; rfl
  ·omega
  ·rw [yq (by omega)]
  ·rw [<- hn,hat,h4]; rfl
 ·have:k=s.length:=by have:=zf_ h3; omega
  rw [<- hn,this,List.drop_length]; rfl)
def FN (s:List Int) (S:SpecF) (_Fr:FreshF) (_Sq:SeqF) (Q:yj):Prop :=
 ∃ n0,S 115 [AV.slc 3 (List.map (AV.int IntKind.i64) s),AV.fn (74:FuncId) [] []] [] (iN n0) []/\Q (.bool (decide (n0>=0))) []
theorem DQ (s:List Int) (v:AV) (O:List (List AV)) (h:FN s Sp Fo So (fun r O'=>r=v/\O'=O)):Sp 73 [.slc 3 (List.map (AV.int .i64) s),.fn 74 [] []] [] v O :=
 ye (w:=⟨[],[],[115],[],[]⟩) (k:=0) (keep:=⟨[0,1,4],[],[],[]⟩) (boxes:=[]) mixed (by exact trivial) Tryz.func73 Tryz.call73 rfl rfl rfl (Nat.le_of_ble_eq_true rfl) (by kernel_rfl) h
theorem Et (s:List Int) (hl:s.length<=1000000):Sp 73 [.slc 3 (s.map (AV.int .i64)),.fn 74 [] []] [] (.bool (s.any VS)) []:=DQ s _ _ ⟨_,Gi s hl,by rw [qW],rfl⟩
def YN (n:Int):Bool:=qu n 0 1000000
def R87 (n:Int) (S:SpecF) (_Fr:FreshF) (_Sq:SeqF) (Q:yj):Prop :=
 ∃ b0,S 53 [iN n,iN 0,iN 1000000] [] (.bool b0) []/\Q (.bool b0) []
theorem s87 (n:Int) (v:AV) (O:List (List AV)) (h:R87 n Sp Fo So (fun r O'=>r=v/\O'=O)):Sp 87 [iN n] [] v O :=
 ye (w:=⟨[],[],[],[],[]⟩) (k:=0) (keep:=⟨[0,2],[],[],[]⟩) (boxes:=[]) mixed (by exact trivial) Tryz.func87 Tryz.call87 rfl rfl rfl (Nat.le_of_ble_eq_true rfl) (by kernel_rfl) h
theorem c87 (n:Int):Sp 87 [.int .i64 n] [] (.bool (YN n)) []:=s87 n _ _ ⟨_,c53 ..,rfl,rfl⟩
def Ic (s:List Int) (S:SpecF) (_Fr:FreshF) (_Sq:SeqF) (Q:yj):Prop :=
 ∃ (I0:Nat->List AV->Prop),(∃ m2,I0 m2 [iN 0])/\∀ (m2:Nat) (n3:Int),I0 m2 [iN n3]->(decide (n3<(↑(List.map (AV.int IntKind.i64) s).length:Int))=true->∃ n7,((0:Int)<=n3/\(1:Nat)=(1:Nat)/\(List.map (AV.int IntKind.i64) s)[n3.toNat]?=some (iN n7))/\∃ b9,S 87 [iN n7] [] (.bool b9) []/\(b9=true->Q (iN n3) [])/\(b9=false->∃ k13,k13<m2/\I0 k13 [iN (IntKind.i64.wrap (n3+1))]))/\(decide (n3<(↑(List.map (AV.int IntKind.i64) s).length:Int))=false->Q (iN (-1:Int)) [])
theorem GU (s:List Int) (v:AV) (O:List (List AV)) (h:Ic s Sp Fo So (fun r O'=>r=v/\O'=O)):Sp 115 [.slc 3 (List.map (AV.int .i64) s),.fn 87 [] []] [] v O :=
 ye (w:=⟨[],[],[87],[],[]⟩) (k:=0) (keep:=⟨[0,1,4,5,7,8,9,16],[⟨2,[(8,iN 0)],[],[],[],[],[]⟩],[],[]⟩) (boxes:=[]) mixed (by exact trivial) Tryz.func115 Tryz.call115 rfl rfl rfl (Nat.le_of_ble_eq_true rfl) (by kernel_rfl) h
theorem Gj (s:List Int) (hl:s.length<=1000000):Sp 115 [.slc 3 (s.map (AV.int .i64)),.fn 87 [] []] [] (.int .i64 (yV YN 0 s)) []:=GU s _ _ (by
 unfold Ic
 refine ⟨fun m vs=>∃ k:Nat,vs=[.int .i64 k]/\k<=s.length/\m=s.length-k/\yV YN k (s.drop k)=yV YN 0 s,⟨_,0,rfl,by omega,rfl,rfl⟩,?_⟩
 rintro m n ⟨k,hk,hle,rfl,hn⟩
 cases hk
 simp only [List.length_map]
 refine ⟨fun h3=>?_,fun h3=>⟨?_,by trivial⟩⟩
 ·have h3:k<s.length:=by have:=zt_ h3; omega
  obtain ⟨x,hx,hx'⟩:=yE (f:=(AV.int .i64)) h3
  have hat:=jh (f:=YN) hx
  refine ⟨x,⟨by omega,by trivial,hx'⟩,_,c87 x,fun h4=>⟨?_,by trivial⟩,fun h4=>⟨_,?_,k+1,?_,by omega,rfl,?_⟩⟩
  ·rw [<- hn,hat,h4]; rfl
  ·omega
  ·rw [yq (by omega)]
  ·rw [<- hn,hat,h4]; rfl
 ·have:k=s.length:=by have:=zf_ h3; omega
  rw [<- hn,this,List.drop_length]; rfl)
def FO (s:List Int) (S:SpecF) (_Fr:FreshF) (_Sq:SeqF) (Q:yj):Prop :=
 ∃ n0,S 115 [AV.slc 3 (List.map (AV.int IntKind.i64) s),AV.fn (87:FuncId) [] []] [] (iN n0) []/\Q (.bool (decide (n0>=0))) []
theorem DR (s:List Int) (v:AV) (O:List (List AV)) (h:FO s Sp Fo So (fun r O'=>r=v/\O'=O)):Sp 73 [.slc 3 (List.map (AV.int .i64) s),.fn 87 [] []] [] v O :=
 ye (w:=⟨[],[],[115],[],[]⟩) (k:=0) (keep:=⟨[0,1,4],[],[],[]⟩) (boxes:=[]) mixed (by exact trivial) Tryz.func73 Tryz.call73 rfl rfl rfl (Nat.le_of_ble_eq_true rfl) (by kernel_rfl) h
theorem Eu (s:List Int) (hl:s.length<=1000000):Sp 73 [.slc 3 (s.map (AV.int .i64)),.fn 87 [] []] [] (.bool (s.any YN)) []:=DR s _ _ ⟨_,Gj s hl,by rw [qW],rfl⟩
def M1 (p:TRoProgramme) (x:TRoAsset):Int:=if qu x.Cost 0 1000000 then 7 else if qu x.Rate 0 1000 then 7 else if qu x.Harm 0 10000000 then 7 else if qu x.Last 0 p.First then 7 else 0
def jz (p:TRoProgramme) (_:Nat) (x:TRoAsset):Int:=M1 p x
def R77 (x:TRoAsset) (v0:TRoProgramme) (S:SpecF) (_Fr:FreshF) (_Sq:SeqF) (Q:yj):Prop :=
 ∃ b0,S 53 [iN x.Cost,iN 0,iN 1000000] [] (.bool b0) []/\(b0=true->Q (iN 7) [v0.cs])/\(b0=false->∃ b4,S 53 [iN x.Rate,iN 0,iN 1000] [] (.bool b4) []/\(b4=true->Q (iN 7) [v0.cs])/\(b4=false->∃ b8,S 53 [iN x.Harm,iN 0,iN 10000000] [] (.bool b8) []/\(b8=true->Q (iN 7) [v0.cs])/\(b8=false->∃ b12,S 53 [iN x.Last,iN 0,iN v0.First] [] (.bool b12) []/\(b12=true->Q (iN 7) [v0.cs])/\(b12=false->Q (iN 0) [v0.cs]))))
theorem s77 (x:TRoAsset) (v0:TRoProgramme) (v:AV) (O:List (List AV)) (h:R77 x v0 Sp Fo So (fun r O'=>r=v/\O'=O)):Sp 77 [x.av,.ref 0 0] [v0.cs] v O :=
 ye (w:=⟨[],[],[],[],[]⟩) (k:=0) (keep:=⟨[0,1,2,3,23],[],[],[]⟩) (boxes:=[⟨66,false,v0.cs⟩]) mixed (by exact trivial) Tryz.func77 Tryz.call77 rfl rfl rfl (Nat.le_of_ble_eq_true rfl) (by kernel_rfl) h
theorem c77 (k:Nat) (x:TRoAsset) (p:TRoProgramme):Sp 77 [x.av,.ref 0 0] [p.cs] (.int .i64 (jz p k x)) [p.cs]:=s77 x p _ _ (by
 unfold R77 jz M1
 refine ⟨_,c53 ..,fun h=>⟨?_,by trivial⟩,fun h1=>⟨_,c53 ..,fun h=>⟨?_,by trivial⟩,fun h2=>⟨_,c53 ..,fun h=>⟨?_,by trivial⟩,fun h3=>⟨_,c53 ..,fun h=>⟨?_,by trivial⟩,fun h4=>⟨?_,by trivial⟩⟩⟩⟩⟩
 ·rw [if_pos h]
 ·rw [if_neg (by rw [h1]; simp),if_pos h]
 ·rw [if_neg (by rw [h1]; simp),if_neg (by rw [h2]; simp),if_pos h]
 ·rw [if_neg (by rw [h1]; simp),if_neg (by rw [h2]; simp),if_neg (by rw [h3]; simp),if_pos h]
 ·rw [if_neg (by rw [h1]; simp),if_neg (by rw [h2]; simp),if_neg (by rw [h3]; simp),if_neg (by rw [h4]; simp)])
def R76 (x:TRoAsset) (_S:SpecF) (_Fr:FreshF) (_Sq:SeqF) (Q:yj):Prop :=
 Q (.str x.Name) []
theorem s76 (x:TRoAsset) (v:AV) (O:List (List AV)) (h:R76 x Sp Fo So (fun r O'=>r=v/\O'=O)):Sp 76 [x.av] [] v O :=
 ye (w:=⟨[],[],[],[],[]⟩) (k:=0) (keep:=⟨[0,1,2],[],[],[]⟩) (boxes:=[]) mixed (by exact trivial) Tryz.func76 Tryz.call76 rfl rfl rfl (Nat.le_of_ble_eq_true rfl) (by kernel_rfl) h
theorem c76 (x:TRoAsset):Sp 76 [x.av] [] (.str x.Name) []:=s76 x _ _ ⟨rfl,rfl⟩
def Fj (y v1:TRoAsset) (S:SpecF) (_Fr:FreshF) (_Sq:SeqF) (Q:yj):Prop :=
 ∃ s0,S 76 [y.av] [] (.str s0) []/\∃ s2,S 76 [v1.av] [] (.str s2) []/\Q (.bool (s0.toList == s2.toList)) [[AV.fn (76:FuncId) [] []],v1.cs]
theorem E0 (y:TRoAsset) (v1:TRoAsset) (v:AV) (O:List (List AV)) (h:Fj y v1 Sp Fo So (fun r O'=>r=v/\O'=O)):Sp 117 [y.av,.ref 0 0,.ref 1 0] [[.fn 76 [] []],v1.cs] v O :=
 ye (w:=⟨[],[],[],[],[]⟩) (k:=0) (keep:=⟨[0,1,2,3,4],[],[],[]⟩) (boxes:=[⟨149,false,[.fn 76 [] []]⟩,⟨73,false,v1.cs⟩]) mixed (by exact trivial) Tryz.func117 Tryz.call117 rfl rfl rfl (Nat.le_of_ble_eq_true rfl) (by kernel_rfl) h
theorem F3 (x y:TRoAsset):Sp 117 [x.av,.ref 0 0,.ref 1 0] [[.fn 76 [] []],y.cs] (.bool (qM x.Name y.Name)) [[.fn 76 [] []],y.cs]:=E0 x y _ _ ⟨_,c76 x,_,c76 y,rfl,rfl⟩
def Fm (s:List TRoAsset) (f1:TRoAsset) (S:SpecF) (_Fr:FreshF) (_Sq:SeqF) (Q:yj):Prop :=
 ∃ (I0:Nat->List AV->Prop),(∃ m2,I0 m2 [iN 0])/\∀ (m2:Nat) (n3:Int),I0 m2 [iN n3]->(decide (n3<(↑(List.map TRoAsset.av s).length:Int))=true->∃ s7 n8 n9 n10 n11,((0:Int)<=n3/\(5:Nat)=(5:Nat)/\(List.map TRoAsset.av s)[n3.toNat]?=some (.agg [AV.str s7,iN n8,iN n9,iN n10,iN n11]))/\∃ b13 s14 n15 n16 n17 n18,S 117 [AV.agg [AV.str s7,iN n8,iN n9,iN n10,iN n11],.ref 0 0,.ref 1 0] [[AV.fn (76:FuncId) [] []],f1.cs] (.bool b13) [[AV.fn (76:FuncId) [] []],[AV.str s14,iN n15,iN n16,iN n17,iN n18]]/\(b13=true->Q (iN n3) [[AV.fn (76:FuncId) [] []],[AV.str s14,iN n15,iN n16,iN n17,iN n18]])/\(b13=false->yi [AV.fn (76:FuncId) [] []]/\[AV.str s14,iN n15,iN n16,iN n17,iN n18]=f1.cs/\∃ k24,k24<m2/\I0 k24 [iN (IntKind.i64.wrap (n3+1))]))/\(decide (n3<(↑(List.map TRoAsset.av s).length:Int))=false->Q (iN (-1:Int)) [[AV.fn (76:FuncId) [] []],f1.cs])
theorem E5 (s:List TRoAsset) (f1:TRoAsset) (v:AV) (O:List (List AV)) (h:Fm s f1 Sp Fo So (fun r O'=>r=v/\O'=O)):Sp 132 [.slc 3 (List.map TRoAsset.av s),.fn 117 [] [.ref 0 0,.ref 1 0]] [[.fn 76 [] []],f1.cs] v O :=
 ye (w:=⟨[],[],[],[],[]⟩) (k:=0) (keep:=⟨[0,1,4,5,7,8,9,16],[⟨2,[(8,iN 0)],[],[],[],[],[]⟩],[],[]⟩) (boxes:=[⟨149,false,[.fn 76 [] []]⟩,⟨73,false,f1.cs⟩]) mixed (by exact trivial) Tryz.func132 Tryz.call132 rfl rfl rfl (Nat.le_of_ble_eq_true rfl) (by kernel_rfl) h
theorem F7 (s:List TRoAsset) (y:TRoAsset) (hl:s.length<=1000000):Sp 132 [.slc 3 (List.map TRoAsset.av s),.fn 117 [] [.ref 0 0,.ref 1 0]] [[.fn 76 [] []],y.cs] (.int .i64 (yV (fun x=>qM x.Name y.Name) 0 s)) [[.fn 76 [] []],y.cs]:=E5 s y _ _ (by
 refine ⟨fun m vs=>∃ n:Nat,vs=[.int .i64 n]/\n<=s.length/\m=s.length-n/\yV (fun x=>qM x.Name y.Name) n (s.drop n)=yV (fun x=>qM x.Name y.Name) 0 s,⟨_,0,rfl,by omega,rfl,rfl⟩,?_⟩
 rintro m n ⟨k,hk,hle,rfl,hn⟩
 cases hk
 refine ⟨fun h3=>?_,fun h3=>⟨?_,rfl⟩⟩
 ·have h3:k<s.length:=by simpa using h3
  obtain ⟨x,hx,hx'⟩:=yE (f:=TRoAsset.av) h3
  have hat:=jh (f:=(fun x=>qM x.Name y.Name)) hx
  refine ⟨x.Name,x.Cost,x.Rate,x.Harm,x.Last,⟨by omega,rfl,hx'⟩,_,y.Name,y.Cost,y.Rate,y.Harm,y.Last,F3 x y,fun h4=>⟨?_,rfl⟩,fun h4=>⟨rfl,rfl,_,?_,k+1,?_,by omega,rfl,?_⟩⟩
  ·rw [<- hn,hat,h4]; rfl
  ·omega
  ·rw [yq (by omega)]
  ·rw [<- hn,hat,h4]; rfl
 ·have:k=s.length:=by simp at h3; omega
  rw [<- hn,this,List.drop_length]; rfl)
def Fi (s:List TRoAsset) (f1:TRoAsset) (S:SpecF) (_Fr:FreshF) (_Sq:SeqF) (Q:yj):Prop :=
 ∃ n0 s1 n2 n3 n4 n5,S 132 [AV.slc 3 (List.map TRoAsset.av s),AV.fn (117:FuncId) [] [AV.ref 0 0,.ref 1 0]] [[AV.fn (76:FuncId) [] []],f1.cs] (iN n0) [[AV.fn (76:FuncId) [] []],[AV.str s1,iN n2,iN n3,iN n4,iN n5]]/\Q (.bool (decide (n0>=0))) [[AV.fn (76:FuncId) [] []],[AV.str s1,iN n2,iN n3,iN n4,iN n5]]
theorem EZ (s:List TRoAsset) (f1:TRoAsset) (v:AV) (O:List (List AV)) (h:Fi s f1 Sp Fo So (fun r O'=>r=v/\O'=O)):Sp 116 [.slc 3 (List.map TRoAsset.av s),.fn 117 [] [.ref 0 0,.ref 1 0]] [[.fn 76 [] []],f1.cs] v O :=
 ye (w:=⟨[],[],[],[],[]⟩) (k:=0) (keep:=⟨[0,1,4],[],[],[]⟩) (boxes:=[⟨149,false,[.fn 76 [] []]⟩,⟨73,false,f1.cs⟩]) mixed (by exact trivial) Tryz.func116 Tryz.call116 rfl rfl rfl (Nat.le_of_ble_eq_true rfl) (by kernel_rfl) h
theorem F2 (s:List TRoAsset) (y:TRoAsset) (hl:s.length<=1000000):Sp 116 [.slc 3 (List.map TRoAsset.av s),.fn 117 [] [.ref 0 0,.ref 1 0]] [[.fn 76 [] []],y.cs] (.bool (s.any (fun x=>qM x.Name y.Name))) [[.fn 76 [] []],y.cs]:=EZ s y _ _ (by
 refine ⟨_,y.Name,y.Cost,y.Rate,y.Harm,y.Last,F7 s y hl,?_,rfl⟩
 rw [qW])
def R75 (l:List TRoAsset) (rest0:TRoProgramme) (S:SpecF) (_Fr:FreshF) (_Sq:SeqF) (Q:yj):Prop :=
 ∃ (I0:Nat->List AV->Prop),(∃ m2,I0 m2 [iN 0,rest0.av])/\∀ (m2:Nat) (n3:Int) (es4 es5:List AV) (n6 n7:Int),I0 m2 [iN n3,.agg [AV.slc 3 es4,.slc 3 es5,iN n6,iN n7]]->(decide (n3<(↑(List.map TRoAsset.av l).length:Int))=true->∃ s11 n12 n13 n14 n15,((0:Int)<=n3/\(5:Nat)=(5:Nat)/\(List.map TRoAsset.av l)[n3.toNat]?=some (.agg [AV.str s11,iN n12,iN n13,iN n14,iN n15]))/\∃ n17,S 77 [AV.agg [AV.str s11,iN n12,iN n13,iN n14,iN n15],.ref 0 0] [[AV.slc 3 es4,.slc 3 es5,iN n6,iN n7]] (iN n17) [[AV.slc 3 es4,.slc 3 es5,iN n6,iN n7]]/\∃ s19,S 76 [AV.agg [AV.str s11,iN n12,iN n13,iN n14,iN n15]] [] (.str s19) []/\∃ b21,S 110 [AV.str s19] [] (.bool b21) []/\((!b21)=true->Q (.tup [iN n3,iN 6]) [[AV.slc 3 es4,.slc 3 es5,iN n6,iN n7]])/\((!b21)=false->((0:Int)<=n3/\n3<=(↑(List.map TRoAsset.av l).length:Int))/\∃ b26,S 116 [AV.slc 3 (List.take n3.toNat (List.map TRoAsset.av l)),AV.fn (117:Nat) [] [AV.ref 0 0,.ref 1 0]] [[AV.fn (76:FuncId) [] []],[AV.str s11,iN n12,iN n13,iN n14,iN n15]] (.bool b26) [[AV.fn (76:FuncId) [] []],[AV.str s11,iN n12,iN n13,iN n14,iN n15]]/\(b26=true->Q (.tup [iN n3,iN 5]) [[AV.slc 3 es4,.slc 3 es5,iN n6,iN n7]])/\(b26=false->((n17 != 0)=true->Q (.tup [iN n3,iN n17]) [[AV.slc 3 es4,.slc 3 es5,iN n6,iN n7]])/\((n17 != 0)=false->yi [AV.fn (76:FuncId) [] []]/\∃ k33,k33<m2/\I0 k33 [iN (IntKind.i64.wrap (n3+1)),.agg [AV.slc 3 es4,.slc 3 es5,iN n6,iN n7]]))))/\(decide (n3<(↑(List.map TRoAsset.av l).length:Int))=false->Q (.tup TEncl.zero.cs) [[AV.slc 3 es4,.slc 3 es5,iN n6,iN n7]])
theorem s75 (l:List TRoAsset) (rest0:TRoProgramme) (v:AV) (O:List (List AV)) (h:R75 l rest0 Sp Fo So (fun r O'=>r=v/\O'=O)):Sp 75 [.slc 3 (List.map TRoAsset.av l),.fn 76 [] [],.fn 77 [] [.ref 0 0]] [rest0.cs] v O :=
 ye (w:=⟨[],[],[116,117,77],[],[]⟩) (k:=0) (keep:=⟨[0,1,2,4,6,7,8,9,10,11,12,13,14,21,27,34],[⟨2,[(13,iN 0)],[],[(1000000,.agg [.slc 3 [],.slc 3 [],iN 0,iN 0])],[],[],[]⟩],[],[]⟩) (boxes:=[⟨66,false,rest0.cs⟩]) mixed (by exact trivial) Tryz.func75 Tryz.call75 rfl rfl rfl (Nat.le_of_ble_eq_true rfl) (by kernel_rfl) h
theorem c75 (l:List TRoAsset) (hl:l.length<=1000) (hnm:∀ x∈l,x.Name.size<=9223372036854775807) (p:TRoProgramme):Sp 75 [.slc 3 (List.map TRoAsset.av l),.fn 76 [] [],.fn 77 [] [.ref 0 0]] [p.cs] (.tup [.int .i64 (qq (qe TRoAsset.Name (jz p) l) l.length 0).1,.int .i64 (qq (qe TRoAsset.Name (jz p) l) l.length 0).2]) [p.cs]:=s75 l p _ _ (by
 unfold R75
 refine ⟨fun m vs=>∃ n:Nat,vs=[.int .i64 n,p.av]/\n<=l.length/\m=l.length-n/\qq (qe TRoAsset.Name (jz p) l) (l.length-n) n=qq (qe TRoAsset.Name (jz p) l) l.length 0,⟨_,0,rfl,by omega,rfl,rfl⟩,?_⟩
 intro m
 intros
 rename_i hJ
 obtain ⟨k,hk,hle,rfl,hn⟩:=hJ
 unfold TRoProgramme.av TRoProgramme.cs at hk
 cases hk
 refine ⟨fun h3=>?_,fun h3=>⟨?_,by trivial⟩⟩
 ·have h3:k<l.length:=by simpa using h3
  obtain ⟨x,hx,hx'⟩:=yE (f:=TRoAsset.av) h3
  have hat:=vQ (nm:=TRoAsset.Name) (rest:=(jz p)) hx
  have hf:=XN (e:=qe TRoAsset.Name (jz p) l) h3
  have hmem:x∈l:=List.mem_of_getElem? hx
  have htake:List.take (k:Int).toNat (List.map TRoAsset.av l)=List.map TRoAsset.av (l.take k):=by rw [Int.toNat_natCast,List.map_take]
  refine ⟨x.Name,x.Cost,x.Rate,x.Harm,x.Last,⟨by omega,rfl,hx'⟩,_,c77 k x p,_,c76 x,_,IG _ (hnm x hmem),fun h4=>⟨?_,by trivial⟩,fun h4=>⟨⟨by omega,by simp; omega⟩,((l.take k).any fun z=>qM z.Name x.Name),(by rw [htake]; exact F2 (l.take k) x (by rw [List.length_take]; omega)),fun h5=>⟨?_,by trivial⟩,fun h5=>⟨fun h6=>⟨?_,by trivial⟩,fun h6=>⟨by trivial,_,(by omega:l.length-(k+1)<l.length-k),k+1,?_,by omega,rfl,?_⟩⟩⟩⟩
  ·have he:qe TRoAsset.Name (jz p) l k=6:=by rw [hat,if_pos h4]
   rw [<- hn,hf,he]; rfl
  ·have h4':¬ (!wV x.Name)=true:=by rw [h4]; simp
   have he:qe TRoAsset.Name (jz p) l k=5:=by rw [hat,if_neg h4',if_pos h5]
   rw [<- hn,hf,he]; rfl
  ·have h4':¬ (!wV x.Name)=true:=by rw [h4]; simp
   have h5':¬ ((l.take k).any fun z=>qM z.Name x.Name)=true:=by rw [h5]; simp
   have he:qe TRoAsset.Name (jz p) l k=(jz p) k x:=by rw [hat,if_neg h4',if_neg h5']
   have h6:(jz p) k x≠0:=by simpa using h6
   rw [<- hn,hf,he,if_pos h6]
  ·rw [yq (by omega)]<;>rfl
  ·have h4':¬ (!wV x.Name)=true:=by rw [h4]; simp
   have h5':¬ ((l.take k).any fun z=>qM z.Name x.Name)=true:=by rw [h5]; simp
   have he:qe TRoAsset.Name (jz p) l k=(jz p) k x:=by rw [hat,if_neg h4',if_neg h5']
   have h6:(jz p) k x=0:=by simpa using h6
   rw [<- hn,hf,he,if_neg (by simp [h6])]
 ·have:k=l.length:=by simp at h3; omega
  rw [<- hn,this,Nat.sub_self]; rfl)
def VP (p:TRoProgramme):Int × Int :=
 if p.Assets.length>6 then (-1,3) else if p.Budgets.length>3 then (-1,3) else if qu p.First 0 40000 then (-1,7) else if qu p.Days 1 4000 then (-1,7) else if p.Budgets.any VS then (-1,7) else qq (qe TRoAsset.Name (jz p) p.Assets) p.Assets.length 0
def Q1 (p:TRoProgramme):Prop:=∀ x∈p.Assets,x.Name.size<=9223372036854775807
def R23 (p:TRoProgramme) (S:SpecF) (_Fr:FreshF) (_Sq:SeqF) (Q:yj):Prop :=
 (decide ((↑(List.map TRoAsset.av p.Assets).length:Int)>(6:Int))=true->Q (.tup [iN (-1:Int),iN 3]) [])/\(decide ((↑(List.map TRoAsset.av p.Assets).length:Int)>(6:Int))=false->(decide ((↑(List.map (AV.int IntKind.i64) p.Budgets).length:Int)>(3:Int))=true->Q (.tup [iN (-1:Int),iN 3]) [])/\(decide ((↑(List.map (AV.int IntKind.i64) p.Budgets).length:Int)>(3:Int))=false->∃ b4,S 53 [iN p.First,iN 0,iN 40000] [] (.bool b4) []/\(b4=true->Q (.tup [iN (-1:Int),iN 7]) [])/\(b4=false->∃ b8,S 53 [iN p.Days,iN 1,iN 4000] [] (.bool b8) []/\(b8=true->Q (.tup [iN (-1:Int),iN 7]) [])/\(b8=false->∃ b12,S 73 [AV.slc 3 (List.map (AV.int IntKind.i64) p.Budgets),AV.fn (74:Nat) [] []] [] (.bool b12) []/\(b12=true->Q (.tup [iN (-1:Int),iN 7]) [])/\(b12=false->∃ n16 n17 es18 es19 n20 n21,S 75 [AV.slc 3 (List.map TRoAsset.av p.Assets),AV.fn (76:Nat) [] [],AV.fn (77:Nat) [] [AV.ref 0 0]] [p.cs] (.tup [iN n16,iN n17]) [[AV.slc 3 es18,.slc 3 es19,iN n20,iN n21]]/\Q (.tup [iN n16,iN n17]) [])))))
theorem s23 (p:TRoProgramme) (v:AV) (O:List (List AV)) (h:R23 p Sp Fo So (fun r O'=>r=v/\O'=O)):Sp 23 [p.av] [] v O :=
 ye (w:=⟨[],[],[73],[],[]⟩) (k:=0) (keep:=⟨[0,1,2,3,4,5,16],[],[],[]⟩) (boxes:=[]) mixed (by exact trivial) Tryz.func23 Tryz.call23 rfl rfl rfl (Nat.le_of_ble_eq_true rfl) (by kernel_rfl) h
theorem c23 (p:TRoProgramme) (hp:Q1 p):Sp 23 [p.av] [] (.tup [.int .i64 (VP p).1,.int .i64 (VP p).2]) []:=s23 p _ _ (by
 unfold R23 VP
 simp only [List.length_map]
 refine ⟨fun h=>⟨by rw [if_pos (by have:=zt_ h; omega)],by trivial⟩,fun h1=>?_⟩
 have h1:¬ p.Assets.length>6:=by have:=zf_ h1; omega
 rw [if_neg h1]
 refine ⟨fun h=>⟨by rw [if_pos (by have:=zt_ h; omega)],by trivial⟩,fun h2=>?_⟩
 have h2:¬ p.Budgets.length>3:=by have:=zf_ h2; omega
 rw [if_neg h2]
 refine ⟨_,c53 ..,fun h=>⟨by rw [if_pos h],by trivial⟩,fun h3=>?_⟩
 rw [if_neg (by rw [h3]; simp)]
 refine ⟨_,c53 ..,fun h=>⟨by rw [if_pos h],by trivial⟩,fun h4=>?_⟩
 rw [if_neg (by rw [h4]; simp)]
 refine ⟨_,Et p.Budgets (by omega),fun h=>⟨by rw [if_pos h],by trivial⟩,fun h5=>?_⟩
 rw [if_neg (by rw [h5]; simp)]
 exact ⟨_,_,_,_,_,_,c75 p.Assets (by omega) hp p,rfl,by trivial⟩)
def Gf (nb period days first last rate harm:Int):Int:=IntKind.i64.wrap ((IntKind.i64.wrap (IntKind.i64.wrap (IntKind.i64.wrap (IntKind.i64.wrap (nb-period)*days)*IntKind.i64.wrap (IntKind.i64.wrap (first+IntKind.i64.wrap (period*days))-last))*IntKind.i64.wrap (rate*harm))).tdiv 1000000000)
def K7 (p:TRoProgramme) (x:TRoAsset) (period:Int):Int:=Gf p.Budgets.length period p.Days p.First x.Last x.Rate x.Harm
def R80 (p:TRoProgramme) (x:TRoAsset) (period:Int) (_S:SpecF) (_Fr:FreshF) (_Sq:SeqF) (Q:yj):Prop :=
 Q (iN (IntKind.i64.wrap ((IntKind.i64.wrap (IntKind.i64.wrap (IntKind.i64.wrap (IntKind.i64.wrap ((↑(List.map (AV.int IntKind.i64) p.Budgets).length:Int)-period)*p.Days)*IntKind.i64.wrap (IntKind.i64.wrap (p.First+IntKind.i64.wrap (period*p.Days))-x.Last))*IntKind.i64.wrap (x.Rate*x.Harm))).tdiv (1000000000:Int)))) []
theorem s80 (p:TRoProgramme) (x:TRoAsset) (period:Int) (v:AV) (O:List (List AV)) (h:R80 p x period Sp Fo So (fun r O'=>r=v/\O'=O)):Sp 80 [p.av,x.av,iN period] [] v O :=
 ye (w:=⟨[],[],[],[],[]⟩) (k:=0) (keep:=⟨[0,1,2,3,4,6,7,8],[],[],[]⟩) (boxes:=[]) mixed (by exact trivial) Tryz.func80 Tryz.call80 rfl rfl rfl (Nat.le_of_ble_eq_true rfl) (by kernel_rfl) h
theorem c80 (p:TRoProgramme) (x:TRoAsset) (period:Int):Sp 80 [p.av,x.av,.int .i64 period] [] (.int .i64 (K7 p x period)) []:=s80 p x period _ _ (by
 unfold R80 K7 Gf
 rw [List.length_map]
 exact ⟨rfl,by trivial⟩)
theorem Kr {p:TRoProgramme} (h:(VP p).2=0):p.Assets.length<=6/\p.Budgets.length<=3:=by
 unfold VP at h
 by_cases h0:p.Assets.length>6
 ·rw [if_pos h0] at h; exact absurd h (by simp)
 rw [if_neg h0] at h
 by_cases h1:p.Budgets.length>3
 ·rw [if_pos h1] at h; exact absurd h (by simp)
 omega
def Sf:List Int->List Int->Int->Int
 | n::r,b::s,a=>Sf r s (IntKind.i64.wrap (a+IntKind.i64.wrap (n*b)))
 | [],_,a=>a
 | _::_,[],a=>a
def Wj (p:TRoProgramme) (x:TRoAsset):List Int->Nat->Int->Int
 | [],_,a=>a
 | n::r,i,a=>Wj p x r (i+1) (xo a (IntKind.i64.wrap (IntKind.i64.wrap (1000*K7 p x i)-IntKind.i64.wrap (n*x.Cost))))
def Q6 (p:TRoProgramme) (prices:List Int):List TRoAsset->Int->Int
 | [],a=>a
 | x::r,a=>Q6 p prices r (IntKind.i64.wrap (a+Wj p x prices 0 0))
theorem J2 {P B:List Int} {k:Nat} {n b:Int} (hn:P[k]?=some n) (hb:B[k]?=some b) (a:Int):Sf (P.drop k) (B.drop k) a=Sf (P.drop (k+1)) (B.drop (k+1)) (IntKind.i64.wrap (a+IntKind.i64.wrap (n*b))):=by
 obtain ⟨h1,rfl⟩:=List.getElem?_eq_some_iff.1 hn
 obtain ⟨h2,rfl⟩:=List.getElem?_eq_some_iff.1 hb
 rw [List.drop_eq_getElem_cons h1,List.drop_eq_getElem_cons h2]; rfl
theorem Kf {p:TRoProgramme} {x:TRoAsset} {P:List Int} {k:Nat} {n:Int} (hn:P[k]?=some n) (a:Int):Wj p x (P.drop k) k a=Wj p x (P.drop (k+1)) (k+1) (xo a (IntKind.i64.wrap (IntKind.i64.wrap (1000*K7 p x k)-IntKind.i64.wrap (n*x.Cost)))):=by
 obtain ⟨h1,rfl⟩:=List.getElem?_eq_some_iff.1 hn
 rw [List.drop_eq_getElem_cons h1]; rfl
theorem K2 {p:TRoProgramme} {Q:List Int} {L:List TRoAsset} {k:Nat} {x:TRoAsset} (hn:L[k]?=some x) (a:Int):Q6 p Q (L.drop k) a=Q6 p Q (L.drop (k+1)) (IntKind.i64.wrap (a+Wj p x Q 0 0)):=by
 obtain ⟨h1,rfl⟩:=List.getElem?_eq_some_iff.1 hn
 rw [List.drop_eq_getElem_cons h1]; rfl
def Tt (p:TRoProgramme) (prices:List Int):Int × Int :=
 if (VP p).2≠0 then (0,(VP p).2) else if prices.length≠p.Budgets.length then (0,2) else if prices.any YN then (0,7) else (IntKind.i64.wrap ((Q6 p prices p.Assets (Sf prices p.Budgets 0)).tdiv 1000),0)
def R33 (p:TRoProgramme) (prices:List Int) (S:SpecF) (_Fr:FreshF) (_Sq:SeqF) (Q:yj):Prop :=
 ∃ n0 n1,S 23 [p.av] [] (.tup [iN n0,iN n1]) []/\((n1 != 0)=true->Q (.tup [iN 0,iN n1]) [])/\((n1 != 0)=false->(((↑(List.map (AV.int IntKind.i64) prices).length:Int) != (↑(List.map (AV.int IntKind.i64) p.Budgets).length:Int))=true->Q (.tup [iN 0,iN 2]) [])/\(((↑(List.map (AV.int IntKind.i64) prices).length:Int) != (↑(List.map (AV.int IntKind.i64) p.Budgets).length:Int))=false->∃ b7,S 73 [AV.slc 3 (List.map (AV.int IntKind.i64) prices),AV.fn (87:Nat) [] []] [] (.bool b7) []/\(b7=true->Q (.tup [iN 0,iN 7]) [])/\(b7=false->∃ (I11:Nat->List AV->Prop),(∃ m13,I11 m13 TEncl.zero.cs)/\∀ (m13:Nat) (n14 n15:Int),I11 m13 [iN n14,iN n15]->(decide (n15<(↑(List.map (AV.int IntKind.i64) prices).length:Int))=true->∃ n19,((0:Int)<=n15/\(1:Nat)=(1:Nat)/\(List.map (AV.int IntKind.i64) prices)[n15.toNat]?=some (iN n19))/\∃ n21,((0:Int)<=n15/\(1:Nat)=(1:Nat)/\(List.map (AV.int IntKind.i64) p.Budgets)[n15.toNat]?=some (iN n21))/\p.cs=p.cs/\∃ k24,k24<m13/\I11 k24 [iN (IntKind.i64.wrap (n14+IntKind.i64.wrap (n19*n21))),iN (IntKind.i64.wrap (n15+1))])/\(decide (n15<(↑(List.map (AV.int IntKind.i64) prices).length:Int))=false->∃ (I19:Nat->List AV->Prop),(∃ m21,I19 m21 [iN n14,iN 0])/\∀ (m21:Nat) (n22 n23:Int),I19 m21 [iN n22,iN n23]->(decide (n23<(↑(List.map TRoAsset.av p.Assets).length:Int))=true->∃ s27 n28 n29 n30 n31,((0:Int)<=n23/\(5:Nat)=(5:Nat)/\(List.map TRoAsset.av p.Assets)[n23.toNat]?=some (.agg [AV.str s27,iN n28,iN n29,iN n30,iN n31]))/\∃ (I33:Nat->List AV->Prop),(∃ m35,I33 m35 TEncl.zero.cs)/\∀ (m35:Nat) (n36 n37:Int),I33 m35 [iN n36,iN n37]->(decide (n37<(↑(List.map (AV.int IntKind.i64) prices).length:Int))=true->∃ n41,((0:Int)<=n37/\(1:Nat)=(1:Nat)/\(List.map (AV.int IntKind.i64) prices)[n37.toNat]?=some (iN n41))/\∃ n43,S 80 [p.av,.agg [AV.str s27,iN n28,iN n29,iN n30,iN n31],iN n37] [] (iN n43) []/\p.cs=p.cs/\yi [AV.str s27,iN n28,iN n29,iN n30,iN n31]/\∃ k47,k47<m35/\I33 k47 [iN (if IntKind.i64.wrap (IntKind.i64.wrap ((1000:Int)*n43)-IntKind.i64.wrap (n41*n28))>n36 then IntKind.i64.wrap (IntKind.i64.wrap ((1000:Int)*n43)-IntKind.i64.wrap (n41*n28)) else n36),iN (IntKind.i64.wrap (n37+1))])/\(decide (n37<(↑(List.map (AV.int IntKind.i64) prices).length:Int))=false->p.cs=p.cs/\∃ k42,k42<m21/\I19 k42 [iN (IntKind.i64.wrap (n22+n36)),iN (IntKind.i64.wrap (n23+1))]))/\(decide (n23<(↑(List.map TRoAsset.av p.Assets).length:Int))=false->Q (.tup [iN (IntKind.i64.wrap (n22.tdiv (1000:Int))),iN 0]) [])))))
theorem s33 (p:TRoProgramme) (prices:List Int) (v:AV) (O:List (List AV)) (h:R33 p prices Sp Fo So (fun r O'=>r=v/\O'=O)):Sp 33 [p.av,.slc 3 (List.map (AV.int .i64) prices)] [] v O :=
 ye (w:=⟨[],[],[73],[],[]⟩) (k:=0) (keep:=⟨[0,1,2,4,5,7,8,9,10,12,13,14,15,21,25,32,35,36,37,38,53,54,55,56,59,60,61,62],[⟨10,[(8,iN 0),(37,iN 0)],[],[],[],[],[]⟩,⟨15,[(8,iN 0),(55,iN 0)],[],[],[],[],[]⟩,⟨19,[(13,iN 0),(61,iN 0)],[],[],[],[],[]⟩],[],[]⟩) (boxes:=[]) mixed (by exact trivial) Tryz.func33 Tryz.call33 rfl rfl rfl (Nat.le_of_ble_eq_true rfl) (by kernel_rfl) h
theorem c33 (p:TRoProgramme) (hp:Q1 p) (prices:List Int):Sp 33 [p.av,.slc 3 (prices.map (AV.int .i64))] [] (.tup [.int .i64 (Tt p prices).1,.int .i64 (Tt p prices).2]) []:=s33 p prices _ _ (by
 unfold R33 Tt
 simp only [List.length_map]
 refine ⟨_,_,c23 p hp,fun h=>⟨by rw [if_pos (by simpa using h)],by trivial⟩,fun h=>?_⟩
 rw [if_neg (by simpa using h)]
 obtain ⟨l1,l2⟩:=Kr (p:=p) (by simpa using h)
 have hd:((prices.length:Int) != (p.Budgets.length:Int))=decide (prices.length≠p.Budgets.length):=by rw [Bool.eq_iff_iff]; simp; omega
 rw [hd]
 refine ⟨fun h=>⟨by rw [if_pos (zt_ h)],by trivial⟩,fun h1=>?_⟩
 have h1:=zf_ h1
 rw [if_neg h1]
 have h1:prices.length=p.Budgets.length:=Decidable.not_not.1 h1
 refine ⟨_,Eu prices (by omega),fun h=>⟨by rw [if_pos h],by trivial⟩,fun h2=>?_⟩
 rw [if_neg (by rw [h2]; simp)]
 refine ⟨fun m vs=>∃ (k:Nat) (a:Int),vs=[.int .i64 a,.int .i64 k]/\k<=prices.length/\m=prices.length-k/\Sf (prices.drop k) (p.Budgets.drop k) a=Sf prices p.Budgets 0,⟨_,0,0,rfl,by omega,rfl,rfl⟩,?_⟩
 rintro m n14 n15 ⟨k,a,hk,hle,rfl,hs⟩
 cases hk
 refine ⟨fun h3=>?_,fun h3=>?_⟩
 ·have h3:k<prices.length:=by have:=zt_ h3; omega
  obtain ⟨n,hn,hn'⟩:=yE (f:=AV.int .i64) h3
  obtain ⟨b,hb,hb'⟩:=yE (f:=AV.int .i64) (l:=p.Budgets) (k:=k) (by omega)
  exact ⟨_,⟨by omega,by trivial,hn'⟩,_,⟨by omega,by trivial,hb'⟩,by trivial,_,(by omega:prices.length-(k+1)<prices.length-k),k+1,_,by rw [yq (by omega)],by omega,rfl,by rw [<- hs,J2 hn hb]⟩
 ·have h3:k=prices.length:=by have:=zf_ h3; omega
  subst h3
  have hs:n14=Sf prices p.Budgets 0:=by rw [<- hs,List.drop_length]; rfl
  subst hs
  refine ⟨fun m vs=>∃ (k:Nat) (a:Int),vs=[.int .i64 a,.int .i64 k]/\k<=p.Assets.length/\m=p.Assets.length-k/\Q6 p prices (p.Assets.drop k) a=Q6 p prices p.Assets (Sf prices p.Budgets 0),⟨_,0,_,rfl,by omega,rfl,rfl⟩,?_⟩
  rintro m n22 n23 ⟨k,a,hk,hle,rfl,hs⟩
  cases hk
  refine ⟨fun h3=>?_,fun h3=>?_⟩
  ·have h3:k<p.Assets.length:=by have:=zt_ h3; omega
   obtain ⟨x,hx,hx'⟩:=yE (f:=TRoAsset.av) h3
   refine ⟨_,_,_,_,_,⟨by omega,by trivial,hx'⟩,?_⟩
   refine ⟨fun m vs=>∃ (j:Nat) (a:Int),vs=[.int .i64 a,.int .i64 j]/\j<=prices.length/\m=prices.length-j/\Wj p x (prices.drop j) j a=Wj p x prices 0 0,⟨_,0,0,rfl,by omega,rfl,rfl⟩,?_⟩
   rintro m n36 n37 ⟨j,a',hj,hjl,rfl,hs'⟩
   cases hj
   refine ⟨fun h4=>?_,fun h4=>?_⟩
   ·have h4:j<prices.length:=by have:=zt_ h4; omega
    obtain ⟨n,hn,hn'⟩:=yE (f:=AV.int .i64) h4
    exact ⟨_,⟨by omega,by trivial,hn'⟩,_,c80 p x (j:Int),by trivial,by trivial,_,(by omega:prices.length-(j+1)<prices.length-j),j+1,_,by rw [yq (by omega)],by omega,rfl,by rw [<- hs',Kf hn]; rfl⟩
   ·have h4:j=prices.length:=by have:=zf_ h4; omega
    subst h4
    have hs':n36=Wj p x prices 0 0:=by rw [<- hs',List.drop_length]; rfl
    subst hs'
    exact ⟨by trivial,_,(by omega:p.Assets.length-(k+1)<p.Assets.length-k),k+1,_,by rw [yq (by omega)],by omega,rfl,by rw [<- hs,K2 hx]⟩
  ·have h3:k=p.Assets.length:=by have:=zf_ h3; omega
   subst h3
   have hs:n22=Q6 p prices p.Assets (Sf prices p.Budgets 0):=by rw [<- hs,List.drop_length]; rfl
   rw [hs]; exact ⟨rfl,by trivial⟩)
end Go.Proofs.YtdeeekgohhkdbaaGreatDoor

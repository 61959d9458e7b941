/- Contracts: named things of tasks; tasks. -/
import Derived.Test.YtdeeekgohhkdbaaGreatDoorRa
namespace Go.Proofs.YtdeeekgohhkdbaaGreatDoor
open Go.RowKit
def R67 (x:TRoLorry) (_S:SpecF) (_Fr:FreshF) (_Sq:SeqF) (Q:ym):Prop :=
 Q (.str x.Name) []
theorem s67 (x:TRoLorry) (v:AV) (O:List (List AV)) (h:R67 x Sp Fo So (fun r O'=>r=v/\O'=O)):Sp 67 [x.av] [] v O :=
 yj (w:=⟨[],[],[],[],[]⟩) (k:=0) (keep:=⟨[0,1,2],[],[],[]⟩) (boxes:=[]) mixed (by exact trivial) Tryz.func67 Tryz.call67 rfl rfl rfl (Nat.le_of_ble_eq_true rfl) (by kernel_rfl) h
theorem c67 (x:TRoLorry):Sp 67 [x.av] [] (.str x.Name) []:=s67 x _ _ ⟨rfl,rfl⟩
def zat (y v1:TRoLorry) (S:SpecF) (_Fr:FreshF) (_Sq:SeqF) (Q:ym):Prop :=
 ∃s0,S 67 [y.av] [] (.str s0) []/\∃s2,S 67 [v1.av] [] (.str s2) []/\Q (.bool (s0.toList == s2.toList)) [[AV.fn (67:FuncId) [] []],v1.cs]
theorem zb4 (y:TRoLorry) (v1:TRoLorry) (v:AV) (O:List (List AV)) (h:zat y v1 Sp Fo So (fun r O'=>r=v/\O'=O)):Sp 112 [y.av,.ref 0 0,.ref 1 0] [[.fn 67 [] []],v1.cs] v O :=
 yj (w:=⟨[],[],[],[],[]⟩) (k:=0) (keep:=⟨[0,1,2,3,4],[],[],[]⟩) (boxes:=[⟨142,false,[.fn 67 [] []]⟩,⟨49,false,v1.cs⟩]) mixed (by exact trivial) Tryz.func112 Tryz.call112 rfl rfl rfl (Nat.le_of_ble_eq_true rfl) (by kernel_rfl) h
theorem zbc (x y:TRoLorry):Sp 112 [x.av,.ref 0 0,.ref 1 0] [[.fn 67 [] []],y.cs] (.bool (qX x.Name y.Name)) [[.fn 67 [] []],y.cs]:=zb4 x y _ _ ⟨_,c67 x,_,c67 y,rfl,rfl⟩
def zay (s:List TRoLorry) (f1:TRoLorry) (S:SpecF) (_Fr:FreshF) (_Sq:SeqF) (Q:ym):Prop :=
 ∃(I0:Nat->List AV->Prop),(∃m2,I0 m2 [iN 0])/\∀(m2:Nat) (n3:Int),I0 m2 [iN n3]->(decide (n3<(↑(List.map TRoLorry.av s).length:Int))=true->∃s7 n8 n9 n10 n11 n12,((0:Int)<=n3/\(6:Nat)=(6:Nat)/\(List.map TRoLorry.av s)[n3.toNat]? = some (.agg [AV.str s7,iN n8,iN n9,iN n10,iN n11,iN n12]))/\∃b14 s15 n16 n17 n18 n19 n20,S 112 [AV.agg [AV.str s7,iN n8,iN n9,iN n10,iN n11,iN n12],.ref 0 0,.ref 1 0] [[AV.fn (67:FuncId) [] []],f1.cs] (.bool b14) [[AV.fn (67:FuncId) [] []],[AV.str s15,iN n16,iN n17,iN n18,iN n19,iN n20]]/\(b14=true->Q (iN n3) [[AV.fn (67:FuncId) [] []],[AV.str s15,iN n16,iN n17,iN n18,iN n19,iN n20]])/\(b14=false->yn [AV.fn (67:FuncId) [] []]/\[AV.str s15,iN n16,iN n17,iN n18,iN n19,iN n20]=f1.cs/\∃k26,k26<m2/\I0 k26 [iN (IntKind.i64.wrap (n3+1))]))/\(decide (n3<(↑(List.map TRoLorry.av s).length:Int))=false->Q (iN (-1:Int)) [[AV.fn (67:FuncId) [] []],f1.cs])
theorem zcd (s:List TRoLorry) (f1:TRoLorry) (v:AV) (O:List (List AV)) (h:zay s f1 Sp Fo So (fun r O'=>r=v/\O'=O)):Sp 130 [.slc 3 (List.map TRoLorry.av s),.fn 112 [] [.ref 0 0,.ref 1 0]] [[.fn 67 [] []],f1.cs] v O :=
 yj (w:=⟨[],[],[],[],[]⟩) (k:=0) (keep:=⟨[0,1,4,5,7,8,9,16],[⟨2,[(8,iN 0)],[],[],[],[],[]⟩],[],[]⟩) (boxes:=[⟨142,false,[.fn 67 [] []]⟩,⟨49,false,f1.cs⟩]) mixed (by exact trivial) Tryz.func130 Tryz.call130 rfl rfl rfl (Nat.le_of_ble_eq_true rfl) (by kernel_rfl) h
theorem zbi (s:List TRoLorry) (y:TRoLorry) (hl:s.length<=1000000):Sp 130 [.slc 3 (List.map TRoLorry.av s),.fn 112 [] [.ref 0 0,.ref 1 0]] [[.fn 67 [] []],y.cs] (.int .i64 (yI (fun x=>qX x.Name y.Name) 0 s)) [[.fn 67 [] []],y.cs]:=zcd s y _ _ (by
 refine⟨fun m vs=>∃n:Nat,vs=[.int .i64 n]/\n<=s.length/\m=s.length-n/\yI (fun x=>qX x.Name y.Name) n (s.drop n)=yI (fun x=>qX x.Name y.Name) 0 s,⟨_,0,rfl,by omega,rfl,rfl⟩,?_⟩;rintro m n ⟨k,hk,hle,rfl,hn⟩;cases hk;refine⟨fun h3=>?_,fun h3=>⟨?_,rfl⟩⟩
 ·have h3:k<s.length:=by simpa using h3
  obtain ⟨x,hx,hx'⟩:=yH (f:=TRoLorry.av) h3;have hat:=qE (f:=(fun x=>qX x.Name y.Name)) hx;refine⟨x.Name,x.Lift,x.Room,x.From,x.Until,x.PerHour,⟨by omega,rfl,hx'⟩,_,y.Name,y.Lift,y.Room,y.From,y.Until,y.PerHour,zbc x y,fun h4=>⟨?_,rfl⟩,fun h4=>⟨rfl,rfl,_,?_,k+1,?_,by omega,rfl,?_⟩⟩
  ·rw[<- hn,hat,h4];rfl
  ·omega
  ·rw[yx (by omega)]
  ·rw[<- hn,hat,h4];rfl
 ·have:k=s.length:=by simp at h3;omega
  rw[<- hn,this,List.drop_length];rfl)
def zas (s:List TRoLorry) (f1:TRoLorry) (S:SpecF) (_Fr:FreshF) (_Sq:SeqF) (Q:ym):Prop :=
 ∃n0 s1 n2 n3 n4 n5 n6,S 130 [AV.slc 3 (List.map TRoLorry.av s),AV.fn (112:FuncId) [] [AV.ref 0 0,.ref 1 0]] [[AV.fn (67:FuncId) [] []],f1.cs] (iN n0) [[AV.fn (67:FuncId) [] []],[AV.str s1,iN n2,iN n3,iN n4,iN n5,iN n6]]/\Q (.bool (decide (n0>=0))) [[AV.fn (67:FuncId) [] []],[AV.str s1,iN n2,iN n3,iN n4,iN n5,iN n6]]
theorem zb3 (s:List TRoLorry) (f1:TRoLorry) (v:AV) (O:List (List AV)) (h:zas s f1 Sp Fo So (fun r O'=>r=v/\O'=O)):Sp 111 [.slc 3 (List.map TRoLorry.av s),.fn 112 [] [.ref 0 0,.ref 1 0]] [[.fn 67 [] []],f1.cs] v O :=
 yj (w:=⟨[],[],[],[],[]⟩) (k:=0) (keep:=⟨[0,1,4],[],[],[]⟩) (boxes:=[⟨142,false,[.fn 67 [] []]⟩,⟨49,false,f1.cs⟩]) mixed (by exact trivial) Tryz.func111 Tryz.call111 rfl rfl rfl (Nat.le_of_ble_eq_true rfl) (by kernel_rfl) h
theorem zbb (s:List TRoLorry) (y:TRoLorry) (hl:s.length<=1000000):Sp 111 [.slc 3 (List.map TRoLorry.av s),.fn 112 [] [.ref 0 0,.ref 1 0]] [[.fn 67 [] []],y.cs] (.bool (s.any (fun x=>qX x.Name y.Name))) [[.fn 67 [] []],y.cs]:=zb3 s y _ _ (by
 refine⟨_,y.Name,y.Lift,y.Room,y.From,y.Until,y.PerHour,zbi s y hl,?_,rfl⟩;rw[qk])
def R70 (x:TRoJob) (_S:SpecF) (_Fr:FreshF) (_Sq:SeqF) (Q:ym):Prop :=
 Q (.str x.Name) []
theorem s70 (x:TRoJob) (v:AV) (O:List (List AV)) (h:R70 x Sp Fo So (fun r O'=>r=v/\O'=O)):Sp 70 [x.av] [] v O :=
 yj (w:=⟨[],[],[],[],[]⟩) (k:=0) (keep:=⟨[0,1,2],[],[],[]⟩) (boxes:=[]) mixed (by exact trivial) Tryz.func70 Tryz.call70 rfl rfl rfl (Nat.le_of_ble_eq_true rfl) (by kernel_rfl) h
theorem c70 (x:TRoJob):Sp 70 [x.av] [] (.str x.Name) []:=s70 x _ _ ⟨rfl,rfl⟩
def zav (y v1:TRoJob) (S:SpecF) (_Fr:FreshF) (_Sq:SeqF) (Q:ym):Prop :=
 ∃s0,S 70 [y.av] [] (.str s0) []/\∃s2,S 70 [v1.av] [] (.str s2) []/\Q (.bool (s0.toList == s2.toList)) [[AV.fn (70:FuncId) [] []],v1.cs]
theorem zb6 (y:TRoJob) (v1:TRoJob) (v:AV) (O:List (List AV)) (h:zav y v1 Sp Fo So (fun r O'=>r=v/\O'=O)):Sp 114 [y.av,.ref 0 0,.ref 1 0] [[.fn 70 [] []],v1.cs] v O :=
 yj (w:=⟨[],[],[],[],[]⟩) (k:=0) (keep:=⟨[0,1,2,3,4],[],[],[]⟩) (boxes:=[⟨145,false,[.fn 70 [] []]⟩,⟨55,false,v1.cs⟩]) mixed (by exact trivial) Tryz.func114 Tryz.call114 rfl rfl rfl (Nat.le_of_ble_eq_true rfl) (by kernel_rfl) h
theorem zbe (x y:TRoJob):Sp 114 [x.av,.ref 0 0,.ref 1 0] [[.fn 70 [] []],y.cs] (.bool (qX x.Name y.Name)) [[.fn 70 [] []],y.cs]:=zb6 x y _ _ ⟨_,c70 x,_,c70 y,rfl,rfl⟩
def zaz (s:List TRoJob) (f1:TRoJob) (S:SpecF) (_Fr:FreshF) (_Sq:SeqF) (Q:ym):Prop :=
 ∃(I0:Nat->List AV->Prop),(∃m2,I0 m2 [iN 0])/\∀(m2:Nat) (n3:Int),I0 m2 [iN n3]->(decide (n3<(↑(List.map TRoJob.av s).length:Int))=true->∃s7 n8 n9 n10 n11 es12 n13 b14 n15,((0:Int)<=n3/\(9:Nat)=(9:Nat)/\(List.map TRoJob.av s)[n3.toNat]? = some (.agg [AV.str s7,iN n8,iN n9,iN n10,iN n11,.slc 3 es12,iN n13,.bool b14,iN n15]))/\∃b17 s18 n19 n20 n21 n22 es23 n24 b25 n26,S 114 [AV.agg [AV.str s7,iN n8,iN n9,iN n10,iN n11,.slc 3 es12,iN n13,.bool b14,iN n15],.ref 0 0,.ref 1 0] [[AV.fn (70:FuncId) [] []],f1.cs] (.bool b17) [[AV.fn (70:FuncId) [] []],[AV.str s18,iN n19,iN n20,iN n21,iN n22,.slc 3 es23,iN n24,.bool b25,iN n26]]/\(b17=true->Q (iN n3) [[AV.fn (70:FuncId) [] []],[AV.str s18,iN n19,iN n20,iN n21,iN n22,.slc 3 es23,iN n24,.bool b25,iN n26]])/\(b17=false->yn [AV.fn (70:FuncId) [] []]/\[AV.str s18,iN n19,iN n20,iN n21,iN n22,.slc 3 es23,iN n24,.bool b25,iN n26]=f1.cs/\∃k32,k32<m2/\I0 k32 [iN (IntKind.i64.wrap (n3+1))]))/\(decide (n3<(↑(List.map TRoJob.av s).length:Int))=false->Q (iN (-1:Int)) [[AV.fn (70:FuncId) [] []],f1.cs])
theorem zce (s:List TRoJob) (f1:TRoJob) (v:AV) (O:List (List AV)) (h:zaz s f1 Sp Fo So (fun r O'=>r=v/\O'=O)):Sp 131 [.slc 3 (List.map TRoJob.av s),.fn 114 [] [.ref 0 0,.ref 1 0]] [[.fn 70 [] []],f1.cs] v O :=
 yj (w:=⟨[],[],[],[],[]⟩) (k:=0) (keep:=⟨[0,1,4,5,7,8,9,16],[⟨2,[(8,iN 0)],[],[],[],[],[]⟩],[],[]⟩) (boxes:=[⟨145,false,[.fn 70 [] []]⟩,⟨55,false,f1.cs⟩]) mixed (by exact trivial) Tryz.func131 Tryz.call131 rfl rfl rfl (Nat.le_of_ble_eq_true rfl) (by kernel_rfl) h
theorem zbj (s:List TRoJob) (y:TRoJob) (hl:s.length<=1000000):Sp 131 [.slc 3 (List.map TRoJob.av s),.fn 114 [] [.ref 0 0,.ref 1 0]] [[.fn 70 [] []],y.cs] (.int .i64 (yI (fun x=>qX x.Name y.Name) 0 s)) [[.fn 70 [] []],y.cs]:=zce s y _ _ (by
 refine⟨fun m vs=>∃n:Nat,vs=[.int .i64 n]/\n<=s.length/\m=s.length-n/\yI (fun x=>qX x.Name y.Name) n (s.drop n)=yI (fun x=>qX x.Name y.Name) 0 s,⟨_,0,rfl,by omega,rfl,rfl⟩,?_⟩;rintro m n ⟨k,hk,hle,rfl,hn⟩;cases hk;refine⟨fun h3=>?_,fun h3=>⟨?_,rfl⟩⟩
 ·have h3:k<s.length:=by simpa using h3
  obtain ⟨x,hx,hx'⟩:=yH (f:=TRoJob.av) h3;have hat:=qE (f:=(fun x=>qX x.Name y.Name)) hx;refine⟨x.Name,x.X,x.Y,x.Height,x.Seconds,List.map (AV.int .i64) x.Parts,x.Closure,x.Daylight,x.Value,⟨by omega,rfl,hx'⟩,_,y.Name,y.X,y.Y,y.Height,y.Seconds,List.map (AV.int .i64) y.Parts,y.Closure,y.Daylight,y.Value,zbe x y,fun h4=>⟨?_,rfl⟩,fun h4=>⟨rfl,rfl,_,?_,k+1,?_,by omega,rfl,?_⟩⟩
  ·rw[<- hn,hat,h4];rfl
  ·omega
  ·rw[yx (by omega)]
  ·rw[<- hn,hat,h4];rfl
 ·have:k=s.length:=by simp at h3;omega
  rw[<- hn,this,List.drop_length];rfl)
def zau (s:List TRoJob) (f1:TRoJob) (S:SpecF) (_Fr:FreshF) (_Sq:SeqF) (Q:ym):Prop :=
 ∃n0 s1 n2 n3 n4 n5 es6 n7 b8 n9,S 131 [AV.slc 3 (List.map TRoJob.av s),AV.fn (114:FuncId) [] [AV.ref 0 0,.ref 1 0]] [[AV.fn (70:FuncId) [] []],f1.cs] (iN n0) [[AV.fn (70:FuncId) [] []],[AV.str s1,iN n2,iN n3,iN n4,iN n5,.slc 3 es6,iN n7,.bool b8,iN n9]]/\Q (.bool (decide (n0>=0))) [[AV.fn (70:FuncId) [] []],[AV.str s1,iN n2,iN n3,iN n4,iN n5,.slc 3 es6,iN n7,.bool b8,iN n9]]
theorem zb5 (s:List TRoJob) (f1:TRoJob) (v:AV) (O:List (List AV)) (h:zau s f1 Sp Fo So (fun r O'=>r=v/\O'=O)):Sp 113 [.slc 3 (List.map TRoJob.av s),.fn 114 [] [.ref 0 0,.ref 1 0]] [[.fn 70 [] []],f1.cs] v O :=
 yj (w:=⟨[],[],[],[],[]⟩) (k:=0) (keep:=⟨[0,1,4],[],[],[]⟩) (boxes:=[⟨145,false,[.fn 70 [] []]⟩,⟨55,false,f1.cs⟩]) mixed (by exact trivial) Tryz.func113 Tryz.call113 rfl rfl rfl (Nat.le_of_ble_eq_true rfl) (by kernel_rfl) h
theorem zbd (s:List TRoJob) (y:TRoJob) (hl:s.length<=1000000):Sp 113 [.slc 3 (List.map TRoJob.av s),.fn 114 [] [.ref 0 0,.ref 1 0]] [[.fn 70 [] []],y.cs] (.bool (s.any (fun x=>qX x.Name y.Name))) [[.fn 70 [] []],y.cs]:=zb5 s y _ _ (by
 refine⟨_,y.Name,y.X,y.Y,y.Height,y.Seconds,List.map (AV.int .i64) y.Parts,y.Closure,y.Daylight,y.Value,zbj s y hl,?_,rfl⟩;rw[qk])
def R66 (l:List TRoLorry) (S:SpecF) (_Fr:FreshF) (_Sq:SeqF) (Q:ym):Prop :=
 ∃(I0:Nat->List AV->Prop),(∃m2,I0 m2 [iN 0])/\∀(m2:Nat) (n3:Int),I0 m2 [iN n3]->(decide (n3<(↑(List.map TRoLorry.av l).length:Int))=true->∃s7 n8 n9 n10 n11 n12,((0:Int)<=n3/\(6:Nat)=(6:Nat)/\(List.map TRoLorry.av l)[n3.toNat]? = some (.agg [AV.str s7,iN n8,iN n9,iN n10,iN n11,iN n12]))/\∃n14,S 68 [AV.agg [AV.str s7,iN n8,iN n9,iN n10,iN n11,iN n12]] [] (iN n14) []/\∃s16,S 67 [AV.agg [AV.str s7,iN n8,iN n9,iN n10,iN n11,iN n12]] [] (.str s16) []/\∃b18,S 110 [AV.str s16] [] (.bool b18) []/\((!b18)=true->Q (.tup [iN n3,iN 6]) [])/\((!b18)=false->((0:Int)<=n3/\n3<=(↑(List.map TRoLorry.av l).length:Int))/\∃b23,S 111 [AV.slc 3 (List.take n3.toNat (List.map TRoLorry.av l)),AV.fn (112:Nat) [] [AV.ref 0 0,.ref 1 0]] [[AV.fn (67:FuncId) [] []],[AV.str s7,iN n8,iN n9,iN n10,iN n11,iN n12]] (.bool b23) [[AV.fn (67:FuncId) [] []],[AV.str s7,iN n8,iN n9,iN n10,iN n11,iN n12]]/\(b23=true->Q (.tup [iN n3,iN 5]) [])/\(b23=false->((n14 != 0)=true->Q (.tup [iN n3,iN n14]) [])/\((n14 != 0)=false->yn [AV.fn (67:FuncId) [] []]/\∃k30,k30<m2/\I0 k30 [iN (IntKind.i64.wrap (n3+1))]))))/\(decide (n3<(↑(List.map TRoLorry.av l).length:Int))=false->Q (.tup TEncl.zero.cs) [])
theorem s66 (l:List TRoLorry) (v:AV) (O:List (List AV)) (h:R66 l Sp Fo So (fun r O'=>r=v/\O'=O)):Sp 66 [.slc 3 (List.map TRoLorry.av l),.fn 67 [] [],.fn 68 [] []] [] v O :=
 yj (w:=⟨[],[],[111,112],[],[]⟩) (k:=0) (keep:=⟨[0,1,2,4,6,7,8,9,10,11,12,13,14,21,27,34],[⟨2,[(13,iN 0)],[],[],[],[],[]⟩],[],[]⟩) (boxes:=[]) mixed (by exact trivial) Tryz.func66 Tryz.call66 rfl rfl rfl (Nat.le_of_ble_eq_true rfl) (by kernel_rfl) h
theorem c66 (l:List TRoLorry) (hl:l.length<=1000) (hnm:∀x∈l,x.Name.size<=9223372036854775807):Sp 66 [.slc 3 (List.map TRoLorry.av l),.fn 67 [] [],.fn 68 [] []] [] (.tup [.int .i64 (qC (qj TRoLorry.Name jm l) l.length 0).1,.int .i64 (qC (qj TRoLorry.Name jm l) l.length 0).2]) []:=s66 l _ _ (by
 unfold R66;refine⟨fun m vs=>∃n:Nat,vs=[.int .i64 n]/\n<=l.length/\m=l.length-n/\qC (qj TRoLorry.Name jm l) (l.length-n) n=qC (qj TRoLorry.Name jm l) l.length 0,⟨_,0,rfl,by omega,rfl,rfl⟩,?_⟩;rintro m n ⟨k,hk,hle,rfl,hn⟩;cases hk;refine⟨fun h3=>?_,fun h3=>⟨?_,by trivial⟩⟩
 ·have h3:k<l.length:=by simpa using h3
  obtain ⟨x,hx,hx'⟩:=yH (f:=TRoLorry.av) h3;have hat:=vM (nm:=TRoLorry.Name) (rest:=jm) hx;have hf:=XZ (e:=qj TRoLorry.Name jm l) h3;have hmem:x∈l:=List.mem_of_getElem? hx;have htake:List.take (k:Int).toNat (List.map TRoLorry.av l)=List.map TRoLorry.av (l.take k):=by rw[Int.toNat_natCast,List.map_take]
  refine⟨x.Name,x.Lift,x.Room,x.From,x.Until,x.PerHour,⟨by omega,rfl,hx'⟩,_,c68 k x,_,c67 x,_,GF _ (hnm x hmem),fun h4=>⟨?_,by trivial⟩,fun h4=>⟨⟨by omega,by simp;omega⟩,((l.take k).any fun z=>qX z.Name x.Name),(by rw[htake];exact zbb (l.take k) x (by rw[List.length_take];omega)),fun h5=>⟨?_,by trivial⟩,fun h5=>⟨fun h6=>⟨?_,by trivial⟩,fun h6=>⟨by trivial,_,(by omega:l.length-(k+1)<l.length-k),k+1,?_,by omega,rfl,?_⟩⟩⟩⟩
  ·have he:qj TRoLorry.Name jm l k=6:=by rw[hat,if_pos h4]
   rw[<- hn,hf,he];rfl
  ·have h4':¬ (!w9 x.Name)=true:=by rw[h4];simp
   have he:qj TRoLorry.Name jm l k=5:=by rw[hat,if_neg h4',if_pos h5]
   rw[<- hn,hf,he];rfl
  ·have h4':¬ (!w9 x.Name)=true:=by rw[h4];simp
   have h5':¬ ((l.take k).any fun z=>qX z.Name x.Name)=true:=by rw[h5];simp
   have he:qj TRoLorry.Name jm l k=jm k x:=by rw[hat,if_neg h4',if_neg h5']
   have h6:jm k x≠0:=by simpa using h6
   rw[<- hn,hf,he,if_pos h6]
  ·rw[yx (by omega)]<;>rfl
  ·have h4':¬ (!w9 x.Name)=true:=by rw[h4];simp
   have h5':¬ ((l.take k).any fun z=>qX z.Name x.Name)=true:=by rw[h5];simp
   have he:qj TRoLorry.Name jm l k=jm k x:=by rw[hat,if_neg h4',if_neg h5']
   have h6:jm k x=0:=by simpa using h6
   rw[<- hn,hf,he,if_neg (by simp[h6])]
 ·have:k=l.length:=by simp at h3;omega
  rw[<- hn,this,Nat.sub_self];rfl)
def R69 (l:List TRoJob) (rest0:TRoTask) (S:SpecF) (_Fr:FreshF) (_Sq:SeqF) (Q:ym):Prop :=
 ∃(I0:Nat->List AV->Prop),(∃m2,I0 m2 [iN 0,rest0.av])/\∀(m2:Nat) (n3 n4 n5 n6 n7 n8 n9 n10 n11 n12:Int) (es13 es14 es15 es16:List AV),I0 m2 [iN n3,.agg [iN n4,iN n5,iN n6,iN n7,iN n8,iN n9,iN n10,iN n11,iN n12,.slc 3 es13,.slc 3 es14,.slc 3 es15,.slc 3 es16]]->(decide (n3<(↑(List.map TRoJob.av l).length:Int))=true->∃s20 n21 n22 n23 n24 es25 n26 b27 n28,((0:Int)<=n3/\(9:Nat)=(9:Nat)/\(List.map TRoJob.av l)[n3.toNat]? = some (.agg [AV.str s20,iN n21,iN n22,iN n23,iN n24,.slc 3 es25,iN n26,.bool b27,iN n28]))/\∃n30,S 71 [AV.agg [AV.str s20,iN n21,iN n22,iN n23,iN n24,.slc 3 es25,iN n26,.bool b27,iN n28],.ref 0 0] [[iN n4,iN n5,iN n6,iN n7,iN n8,iN n9,iN n10,iN n11,iN n12,.slc 3 es13,.slc 3 es14,.slc 3 es15,.slc 3 es16]] (iN n30) [[iN n4,iN n5,iN n6,iN n7,iN n8,iN n9,iN n10,iN n11,iN n12,.slc 3 es13,.slc 3 es14,.slc 3 es15,.slc 3 es16]]/\∃s32,S 70 [AV.agg [AV.str s20,iN n21,iN n22,iN n23,iN n24,.slc 3 es25,iN n26,.bool b27,iN n28]] [] (.str s32) []/\∃b34,S 110 [AV.str s32] [] (.bool b34) []/\((!b34)=true->Q (.tup [iN n3,iN 6]) [[iN n4,iN n5,iN n6,iN n7,iN n8,iN n9,iN n10,iN n11,iN n12,.slc 3 es13,.slc 3 es14,.slc 3 es15,.slc 3 es16]])/\((!b34)=false->((0:Int)<=n3/\n3<=(↑(List.map TRoJob.av l).length:Int))/\∃b39,S 113 [AV.slc 3 (List.take n3.toNat (List.map TRoJob.av l)),AV.fn (114:Nat) [] [AV.ref 0 0,.ref 1 0]] [[AV.fn (70:FuncId) [] []],[AV.str s20,iN n21,iN n22,iN n23,iN n24,.slc 3 es25,iN n26,.bool b27,iN n28]] (.bool b39) [[AV.fn (70:FuncId) [] []],[AV.str s20,iN n21,iN n22,iN n23,iN n24,.slc 3 es25,iN n26,.bool b27,iN n28]]/\(b39=true->Q (.tup [iN n3,iN 5]) [[iN n4,iN n5,iN n6,iN n7,iN n8,iN n9,iN n10,iN n11,iN n12,.slc 3 es13,.slc 3 es14,.slc 3 es15,.slc 3 es16]])/\(b39=false->((n30 != 0)=true->Q (.tup [iN n3,iN n30]) [[iN n4,iN n5,iN n6,iN n7,iN n8,iN n9,iN n10,iN n11,iN n12,.slc 3 es13,.slc 3 es14,.slc 3 es15,.slc 3 es16]])/\((n30 != 0)=false->yn [AV.fn (70:FuncId) [] []]/\∃k46,k46<m2/\I0 k46 [iN (IntKind.i64.wrap (n3+1)),.agg [iN n4,iN n5,iN n6,iN n7,iN n8,iN n9,iN n10,iN n11,iN n12,.slc 3 es13,.slc 3 es14,.slc 3 es15,.slc 3 es16]]))))/\(decide (n3<(↑(List.map TRoJob.av l).length:Int))=false->Q (.tup TEncl.zero.cs) [[iN n4,iN n5,iN n6,iN n7,iN n8,iN n9,iN n10,iN n11,iN n12,.slc 3 es13,.slc 3 es14,.slc 3 es15,.slc 3 es16]])
theorem s69 (l:List TRoJob) (rest0:TRoTask) (v:AV) (O:List (List AV)) (h:R69 l rest0 Sp Fo So (fun r O'=>r=v/\O'=O)):Sp 69 [.slc 3 (List.map TRoJob.av l),.fn 70 [] [],.fn 71 [] [.ref 0 0]] [rest0.cs] v O :=
 yj (w:=⟨[],[],[113,114,71],[],[]⟩) (k:=0) (keep:=⟨[0,1,2,4,6,7,8,9,10,11,12,13,14,21,27,34],[⟨2,[(13,iN 0)],[],[(1000000,.agg [iN 0,iN 0,iN 0,iN 0,iN 0,iN 0,iN 0,iN 0,iN 0,.slc 3 [],.slc 3 [],.slc 3 [],.slc 3 []])],[],[],[]⟩],[],[]⟩) (boxes:=[⟨31,false,rest0.cs⟩]) mixed (by exact trivial) Tryz.func69 Tryz.call69 rfl rfl rfl (Nat.le_of_ble_eq_true rfl) (by kernel_rfl) h
theorem c69 (l:List TRoJob) (hl:l.length<=1000) (hnm:∀x∈l,x.Name.size<=9223372036854775807) (t:TRoTask) (hk:t.Kinds.length<=1000) (hc:t.Closures.length<=1000):Sp 69 [.slc 3 (List.map TRoJob.av l),.fn 70 [] [],.fn 71 [] [.ref 0 0]] [t.cs] (.tup [.int .i64 (qC (qj TRoJob.Name (vU t) l) l.length 0).1,.int .i64 (qC (qj TRoJob.Name (vU t) l) l.length 0).2]) [t.cs]:=s69 l t _ _ (by
 unfold R69;refine⟨fun m vs=>∃n:Nat,vs=[.int .i64 n,t.av]/\n<=l.length/\m=l.length-n/\qC (qj TRoJob.Name (vU t) l) (l.length-n) n=qC (qj TRoJob.Name (vU t) l) l.length 0,⟨_,0,rfl,by omega,rfl,rfl⟩,?_⟩;intro m;intros;rename_i hJ;obtain ⟨k,hk,hle,rfl,hn⟩:=hJ;unfold TRoTask.av TRoTask.cs at hk;cases hk;refine⟨fun h3=>?_,fun h3=>⟨?_,by trivial⟩⟩
 ·have h3:k<l.length:=by simpa using h3
  obtain ⟨x,hx,hx'⟩:=yH (f:=TRoJob.av) h3;have hat:=vM (nm:=TRoJob.Name) (rest:=(vU t)) hx;have hf:=XZ (e:=qj TRoJob.Name (vU t) l) h3;have hmem:x∈l:=List.mem_of_getElem? hx;have htake:List.take (k:Int).toNat (List.map TRoJob.av l)=List.map TRoJob.av (l.take k):=by rw[Int.toNat_natCast,List.map_take]
  refine⟨x.Name,x.X,x.Y,x.Height,x.Seconds,List.map (AV.int .i64) x.Parts,x.Closure,x.Daylight,x.Value,⟨by omega,rfl,hx'⟩,_,c71 k x t hk hc,_,c70 x,_,GF _ (hnm x hmem),fun h4=>⟨?_,by trivial⟩,fun h4=>⟨⟨by omega,by simp;omega⟩,((l.take k).any fun z=>qX z.Name x.Name),(by rw[htake];exact zbd (l.take k) x (by rw[List.length_take];omega)),fun h5=>⟨?_,by trivial⟩,fun h5=>⟨fun h6=>⟨?_,by trivial⟩,fun h6=>⟨by trivial,_,(by omega:l.length-(k+1)<l.length-k),k+1,?_,by omega,rfl,?_⟩⟩⟩⟩
  ·have he:qj TRoJob.Name (vU t) l k=6:=by rw[hat,if_pos h4]
   rw[<- hn,hf,he];rfl
  ·have h4':¬ (!w9 x.Name)=true:=by rw[h4];simp
   have he:qj TRoJob.Name (vU t) l k=5:=by rw[hat,if_neg h4',if_pos h5]
   rw[<- hn,hf,he];rfl
  ·have h4':¬ (!w9 x.Name)=true:=by rw[h4];simp
   have h5':¬ ((l.take k).any fun z=>qX z.Name x.Name)=true:=by rw[h5];simp
   have he:qj TRoJob.Name (vU t) l k=(vU t) k x:=by rw[hat,if_neg h4',if_neg h5']
   have h6:(vU t) k x≠0:=by simpa using h6
   rw[<- hn,hf,he,if_pos h6]
  ·rw[yx (by omega)]<;>rfl
  ·have h4':¬ (!w9 x.Name)=true:=by rw[h4];simp
   have h5':¬ ((l.take k).any fun z=>qX z.Name x.Name)=true:=by rw[h5];simp
   have he:qj TRoJob.Name (vU t) l k=(vU t) k x:=by rw[hat,if_neg h4',if_neg h5']
   have h6:(vU t) k x=0:=by simpa using h6
   rw[<- hn,hf,he,if_neg (by simp[h6])]
 ·have:k=l.length:=by simp at h3;omega
  rw[<- hn,this,Nat.sub_self];rfl)
def qF (t:TRoTask):Int × Int × Int :=
 if Xk t.City then (1,0,7) else if qa t.Day 0 40000 then (1,0,7) else if Wj t.X t.Y then (1,0,7) else if qa t.Pace 0 3600 then (1,0,7) else
 if t.Kinds.length>4 then (2,0,3) else if t.Closures.length>4 then (2,0,3) else if t.Lorries.length>3 then (2,0,3) else if t.Jobs.length>6 then (2,0,3) else
 if yI Yu 0 t.Kinds>=0 then (3,yI Yu 0 t.Kinds,7) else if yI uS 0 t.Closures>=0 then (4,yI uS 0 t.Closures,7) else
 if (qC (qj TRoLorry.Name jm t.Lorries) t.Lorries.length 0).2≠0 then (5,qC (qj TRoLorry.Name jm t.Lorries) t.Lorries.length 0) else
 if (qC (qj TRoJob.Name (vU t) t.Jobs) t.Jobs.length 0).2≠0 then (6,qC (qj TRoJob.Name (vU t) t.Jobs) t.Jobs.length 0) else (0,0,0)
structure kc (t:TRoTask):Prop where
 lo:∀x∈t.Lorries,x.Name.size<=9223372036854775807
 jo:∀x∈t.Jobs,x.Name.size<=9223372036854775807
abbrev Kj (t:TRoTask) (S:SpecF) (Q:ym) (p0_:Int):Prop :=
 (p0_ != 0)=false->(decide ((↑(List.map TRoKind.av t.Kinds).length:Int)>(4:Int))=true->Q (.tup [iN 2,iN 0,iN 3]) [])/\(decide ((↑(List.map TRoKind.av t.Kinds).length:Int)>(4:Int))=false->(decide ((↑(List.map TRoSpan.av t.Closures).length:Int)>(4:Int))=true->Q (.tup [iN 2,iN 0,iN 3]) [])/\(decide ((↑(List.map TRoSpan.av t.Closures).length:Int)>(4:Int))=false->(decide ((↑(List.map TRoLorry.av t.Lorries).length:Int)>(3:Int))=true->Q (.tup [iN 2,iN 0,iN 3]) [])/\(decide ((↑(List.map TRoLorry.av t.Lorries).length:Int)>(3:Int))=false->(decide ((↑(List.map TRoJob.av t.Jobs).length:Int)>(6:Int))=true->Q (.tup [iN 2,iN 0,iN 3]) [])/\(decide ((↑(List.map TRoJob.av t.Jobs).length:Int)>(6:Int))=false->∃n26,S 63 [AV.slc 3 (List.map TRoKind.av t.Kinds),AV.fn (62:Nat) [] []] [] (iN n26) []/\(decide (n26>=0)=true->Q (.tup [iN 3,iN n26,iN 7]) [])/\(decide (n26>=0)=false->∃n30,S 64 [AV.slc 3 (List.map TRoSpan.av t.Closures),AV.fn (65:Nat) [] []] [] (iN n30) []/\(decide (n30>=0)=true->Q (.tup [iN 4,iN n30,iN 7]) [])/\(decide (n30>=0)=false->∃n34 n35,S 66 [AV.slc 3 (List.map TRoLorry.av t.Lorries),AV.fn (67:Nat) [] [],AV.fn (68:Nat) [] []] [] (.tup [iN n34,iN n35]) []/\((n35 != 0)=true->Q (.tup [iN 5,iN n34,iN n35]) [])/\((n35 != 0)=false->∃n39 n40 n41 n42 n43 n44 n45 n46 n47 n48 n49 es50 es51 es52 es53,S 69 [AV.slc 3 (List.map TRoJob.av t.Jobs),AV.fn (70:Nat) [] [],AV.fn (71:Nat) [] [AV.ref 0 0]] [t.cs] (.tup [iN n39,iN n40]) [[iN n41,iN n42,iN n43,iN n44,iN n45,iN n46,iN n47,iN n48,iN n49,.slc 3 es50,.slc 3 es51,.slc 3 es52,.slc 3 es53]]/\((n40 != 0)=true->Q (.tup [iN 6,iN n39,iN n40]) [])/\((n40 != 0)=false->Q (.tup TRoFault.zero.cs) []))))))))
def R22 (t:TRoTask) (S:SpecF) (_Fr:FreshF) (_Sq:SeqF) (Q:ym):Prop :=
 ∃n0,S 60 [t.City.av] [] (iN n0) []/\((n0 == 0)=true->∃b4,S 53 [iN t.Day,iN 0,iN 40000] [] (.bool b4) []/\(b4=true->Q (.tup [iN 1,iN 0,iN 7]) [])/\(b4=false->∃b8,S 61 [iN t.X,iN t.Y] [] (.bool b8) []/\(b8=true->Q (.tup [iN 1,iN 0,iN 7]) [])/\(b8=false->∃b12,S 53 [iN t.Pace,iN 0,iN 3600] [] (.bool b12) []/\(b12=true->Q (.tup [iN 1,iN 0,iN 7]) [])/\(b12=false->((n0 != 0)=true->Q (.tup [iN 1,iN 0,iN n0]) [])/\(Kj t S Q n0)))))/\((n0 == 0)=false->((n0 != 0)=true->Q (.tup [iN 1,iN 0,iN n0]) [])/\(Kj t S Q n0))
theorem s22 (t:TRoTask) (v:AV) (O:List (List AV)) (h:R22 t Sp Fo So (fun r O'=>r=v/\O'=O)):Sp 22 [t.av] [] v O :=
 yj (w:=⟨[],[],[],[],[]⟩) (k:=0) (keep:=⟨[0,1,2,3,4,5,27,29,52,58,64,73,84],[],[],[]⟩) (boxes:=[]) mixed (by exact trivial) Tryz.func22 Tryz.call22 rfl rfl rfl (Nat.le_of_ble_eq_true rfl) (by kernel_rfl) h
theorem c22 (t:TRoTask) (ht:kc t):Sp 22 [t.av] [] (.tup [.int .i64 (qF t).1,.int .i64 (qF t).2.1,.int .i64 (qF t).2.2]) []:=s22 t _ _ (by
 unfold R22 Kj qF;simp only[List.length_map];refine⟨_,c60 t.City,?_⟩;cases hc:Xk t.City with
 |true=>exact⟨fun q=>(by simp at q),fun _=>⟨fun _=>⟨by rfl,by trivial⟩,fun q=>(by simp at q)⟩⟩
 |false =>
 refine⟨fun _=>?_,fun q=>(by simp at q)⟩;simp only[Bool.false_eq_true,if_false];refine⟨_,c53 ..,fun h=>⟨by rw[if_pos h],by trivial⟩,fun h1=>?_⟩;rw[if_neg (by rw[h1];simp)];refine⟨_,c61 ..,fun h=>⟨by rw[if_pos h],by trivial⟩,fun h2=>?_⟩;rw[if_neg (by rw[h2];simp)];refine⟨_,c53 ..,fun h=>⟨by rw[if_pos h],by trivial⟩,fun h3=>?_⟩;rw[if_neg (by rw[h3];simp)];refine⟨fun q=>(by simp at q),fun _=>?_⟩;refine⟨fun h=>⟨by rw[if_pos (by have:=zt_ h;omega)],by trivial⟩,fun h4=>?_⟩;have h4:¬ t.Kinds.length>4:=by have:=zf_ h4;omega
 rw[if_neg h4];refine⟨fun h=>⟨by rw[if_pos (by have:=zt_ h;omega)],by trivial⟩,fun h5=>?_⟩;have h5:¬ t.Closures.length>4:=by have:=zf_ h5;omega
 rw[if_neg h5];refine⟨fun h=>⟨by rw[if_pos (by have:=zt_ h;omega)],by trivial⟩,fun h6=>?_⟩;have h6:¬ t.Lorries.length>3:=by have:=zf_ h6;omega
 rw[if_neg h6];refine⟨fun h=>⟨by rw[if_pos (by have:=zt_ h;omega)],by trivial⟩,fun h7=>?_⟩;have h7:¬ t.Jobs.length>6:=by have:=zf_ h7;omega
 rw[if_neg h7];refine⟨_,c63 t.Kinds (by omega),fun h=>⟨by rw[if_pos (zt_ h)],by trivial⟩,fun h8=>?_⟩;rw[if_neg (zf_ h8)];refine⟨_,c64 t.Closures (by omega),fun h=>⟨by rw[if_pos (zt_ h)],by trivial⟩,fun h9=>?_⟩;rw[if_neg (zf_ h9)];refine⟨_,_,c66 t.Lorries (by omega) ht.lo,fun h=>⟨by rw[if_pos (by simpa using h)],by trivial⟩,fun h10=>?_⟩;rw[if_neg (by simpa using h10)];refine⟨_,_,t.City.Lat,t.City.Lon,t.City.Zone,t.City.Altitude.Lo,t.City.Altitude.Hi,t.Day,t.X,t.Y,t.Pace,List.map TRoKind.av t.Kinds,List.map TRoSpan.av t.Closures,List.map TRoLorry.av t.Lorries,List.map TRoJob.av t.Jobs,c69 t.Jobs (by omega) ht.jo t (by omega) (by omega),fun h=>⟨by rw[if_pos (by simpa using h)],by trivial⟩,fun h11=>?_⟩;rw[if_neg (by simpa using h11)];exact⟨rfl,by trivial⟩)
end Go.Proofs.YtdeeekgohhkdbaaGreatDoor

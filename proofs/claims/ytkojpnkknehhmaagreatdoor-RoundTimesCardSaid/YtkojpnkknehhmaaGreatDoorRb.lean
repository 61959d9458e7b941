/- Contracts: named things of tasks; tasks. -/
import Derived.Test.YtkojpnkknehhmaaGreatDoorRa
namespace Go.Proofs.YtkojpnkknehhmaaGreatDoor
open Go.RowKit
def R36 (x:TRoLorry) (Q:yc):Prop :=
 Q (.str x.Name) []
theorem s36 (x:TRoLorry) (v O) (h:R36 x (fun r O'=>r=v/\O'=O)):Sp 36 [x.av] [] v O :=
 zS ⟨[0,1,2],[],[],[]⟩ Tryz.func36 Tryz.call36 rfl (by kernel_rfl) h
theorem c36 (x:TRoLorry):Sp 36 [x.av] [] (.str x.Name) []:=s36 x _ _ ⟨rfl,rfl⟩
def R84 (y v1:TRoLorry) (Q:yc):Prop :=
 ∃s0,Sp 36 [y.av] [] (.str s0) []/\∃s2,Sp 36 [v1.av] [] (.str s2) []/\Q (.bool (s0.toList == s2.toList)) [[AV.fn (36:FuncId) [] []],v1.cs]
theorem s84 (y v1:TRoLorry) (v O) (h:R84 y v1 (fun r O'=>r=v/\O'=O)):Sp 84 [y.av,.ref 0 0,.ref 1 0] [[.fn 36 [] []],v1.cs] v O :=
 zX ⟨[],[],[],[],[]⟩ 0 ⟨[0,1,2,3,4],[],[],[]⟩ [⟨76,false,[.fn 36 [] []]⟩,⟨75,false,v1.cs⟩] (by exact trivial) Tryz.func84 Tryz.call84 rfl rfl rfl (by kernel_rfl) h
theorem c84 (x y:TRoLorry):Sp 84 [x.av,.ref 0 0,.ref 1 0] [[.fn 36 [] []],y.cs] (.bool (qG x.Name y.Name)) [[.fn 36 [] []],y.cs]:=s84 x y _ _ ⟨_,c36 x,_,c36 y,rfl,rfl⟩
def zaH (s:List TRoLorry) (f1:TRoLorry) (Q:yc):Prop :=
 ∃(I0:Nat->List AV->Prop),(∃m2,I0 m2 [iN 0])/\∀(m2:Nat) (n3:Int),I0 m2 [iN n3]->(decide (n3<(↑(List.map TRoLorry.av s).length:Int))=true->∃s7 n8 n9 n10 n11 n12,((0:Int)<=n3/\(6:Nat)=(6:Nat)/\(List.map TRoLorry.av s)[n3.toNat]? = some (.agg [AV.str s7,iN n8,iN n9,iN n10,iN n11,iN n12]))/\∃b14 s15 n16 n17 n18 n19 n20,Sp 84 [AV.agg [AV.str s7,iN n8,iN n9,iN n10,iN n11,iN n12],.ref 0 0,.ref 1 0] [[AV.fn (36:FuncId) [] []],f1.cs] (.bool b14) [[AV.fn (36:FuncId) [] []],[AV.str s15,iN n16,iN n17,iN n18,iN n19,iN n20]]/\(b14=true->Q (iN n3) [[AV.fn (36:FuncId) [] []],[AV.str s15,iN n16,iN n17,iN n18,iN n19,iN n20]])/\(b14=false->yd [AV.fn (36:FuncId) [] []]/\[AV.str s15,iN n16,iN n17,iN n18,iN n19,iN n20]=f1.cs/\∃k26,k26<m2/\I0 k26 [iN (IntKind.i64.wrap (n3+1))]))/\(decide (n3<(↑(List.map TRoLorry.av s).length:Int))=false->Q (iN (-1:Int)) [[AV.fn (36:FuncId) [] []],f1.cs])
theorem zcK (s:List TRoLorry) (f1:TRoLorry) (v O) (h:zaH s f1 (fun r O'=>r=v/\O'=O)):Sp 115 [.slc 3 (List.map TRoLorry.av s),.fn 84 [] [.ref 0 0,.ref 1 0]] [[.fn 36 [] []],f1.cs] v O :=
 zX ⟨[],[],[],[],[]⟩ 0 ⟨[0,1,4,5,7,8,9,16],[⟨2,[(8,iN 0)],[],[],[],[],[]⟩],[],[]⟩ [⟨76,false,[.fn 36 [] []]⟩,⟨75,false,f1.cs⟩] (by exact trivial) Tryz.func115 Tryz.call115 rfl rfl rfl (by kernel_rfl) h
theorem zbB (s:List TRoLorry) (y:TRoLorry) (hl:s.length<=1000000):Sp 115 [.slc 3 (List.map TRoLorry.av s),.fn 84 [] [.ref 0 0,.ref 1 0]] [[.fn 36 [] []],y.cs] (.int .i64 (yx (fun x=>qG x.Name y.Name) 0 s)) [[.fn 36 [] []],y.cs]:=zcK s y _ _ (by
 refine⟨fun m vs=>∃n:Nat,vs=[.int .i64 n]/\n<=s.length/\m=s.length-n/\yx (fun x=>qG x.Name y.Name) n (s.drop n)=yx (fun x=>qG x.Name y.Name) 0 s,⟨_,0,rfl,by omega,rfl,rfl⟩,?_⟩;rintro m n ⟨k,hk,hle,rfl,hn⟩;cases hk;refine⟨fun h3=>?_,fun h3=>⟨?_,rfl⟩⟩
 ·have h3:k<s.length:=by simpa using h3
  obtain ⟨x,hx,hx'⟩:=yq (f:=TRoLorry.av) h3;have hat:=qY (f:=(fun x=>qG x.Name y.Name)) hx;refine⟨x.Name,x.Lift,x.Room,x.From,x.Until,x.PerHour,⟨by omega,rfl,hx'⟩,_,y.Name,y.Lift,y.Room,y.From,y.Until,y.PerHour,c84 x y,fun h4=>⟨?_,rfl⟩,fun h4=>⟨rfl,rfl,_,?_,k+1,?_,by omega,rfl,?_⟩⟩
  ·rw[<- hn,hat,h4];rfl
  ·omega
  ·rw[yr (by omega)]
  ·rw[<- hn,hat,h4];rfl
 ·have:k=s.length:=by simp at h3;omega
  rw[<- hn,this,List.drop_length];rfl)
def R83 (s:List TRoLorry) (f1:TRoLorry) (Q:yc):Prop :=
 ∃n0 s1 n2 n3 n4 n5 n6,Sp 115 [AV.slc 3 (List.map TRoLorry.av s),AV.fn (84:FuncId) [] [AV.ref 0 0,.ref 1 0]] [[AV.fn (36:FuncId) [] []],f1.cs] (iN n0) [[AV.fn (36:FuncId) [] []],[AV.str s1,iN n2,iN n3,iN n4,iN n5,iN n6]]/\Q (.bool (decide (n0>=0))) [[AV.fn (36:FuncId) [] []],[AV.str s1,iN n2,iN n3,iN n4,iN n5,iN n6]]
theorem s83 (s:List TRoLorry) (f1:TRoLorry) (v O) (h:R83 s f1 (fun r O'=>r=v/\O'=O)):Sp 83 [.slc 3 (List.map TRoLorry.av s),.fn 84 [] [.ref 0 0,.ref 1 0]] [[.fn 36 [] []],f1.cs] v O :=
 zX ⟨[],[],[],[],[]⟩ 0 ⟨[0,1,4],[],[],[]⟩ [⟨76,false,[.fn 36 [] []]⟩,⟨75,false,f1.cs⟩] (by exact trivial) Tryz.func83 Tryz.call83 rfl rfl rfl (by kernel_rfl) h
theorem c83 (s:List TRoLorry) (y:TRoLorry) (hl:s.length<=1000000):Sp 83 [.slc 3 (List.map TRoLorry.av s),.fn 84 [] [.ref 0 0,.ref 1 0]] [[.fn 36 [] []],y.cs] (.bool (s.any (fun x=>qG x.Name y.Name))) [[.fn 36 [] []],y.cs]:=s83 s y _ _ (by
 refine⟨_,y.Name,y.Lift,y.Room,y.From,y.Until,y.PerHour,zbB s y hl,?_,rfl⟩;rw[jn])
def R39 (x:TRoJob) (Q:yc):Prop :=
 Q (.str x.Name) []
theorem s39 (x:TRoJob) (v O) (h:R39 x (fun r O'=>r=v/\O'=O)):Sp 39 [x.av] [] v O :=
 zS ⟨[0,1,2],[],[],[]⟩ Tryz.func39 Tryz.call39 rfl (by kernel_rfl) h
theorem c39 (x:TRoJob):Sp 39 [x.av] [] (.str x.Name) []:=s39 x _ _ ⟨rfl,rfl⟩
def R86 (y v1:TRoJob) (Q:yc):Prop :=
 ∃s0,Sp 39 [y.av] [] (.str s0) []/\∃s2,Sp 39 [v1.av] [] (.str s2) []/\Q (.bool (s0.toList == s2.toList)) [[AV.fn (39:FuncId) [] []],v1.cs]
theorem s86 (y v1:TRoJob) (v O) (h:R86 y v1 (fun r O'=>r=v/\O'=O)):Sp 86 [y.av,.ref 0 0,.ref 1 0] [[.fn 39 [] []],v1.cs] v O :=
 zX ⟨[],[],[],[],[]⟩ 0 ⟨[0,1,2,3,4],[],[],[]⟩ [⟨81,false,[.fn 39 [] []]⟩,⟨80,false,v1.cs⟩] (by exact trivial) Tryz.func86 Tryz.call86 rfl rfl rfl (by kernel_rfl) h
theorem c86 (x y:TRoJob):Sp 86 [x.av,.ref 0 0,.ref 1 0] [[.fn 39 [] []],y.cs] (.bool (qG x.Name y.Name)) [[.fn 39 [] []],y.cs]:=s86 x y _ _ ⟨_,c39 x,_,c39 y,rfl,rfl⟩
def zaI (s:List TRoJob) (f1:TRoJob) (Q:yc):Prop :=
 ∃(I0:Nat->List AV->Prop),(∃m2,I0 m2 [iN 0])/\∀(m2:Nat) (n3:Int),I0 m2 [iN n3]->(decide (n3<(↑(List.map TRoJob.av s).length:Int))=true->∃s7 n8 n9 n10 n11 es12 n13 b14 n15,((0:Int)<=n3/\(9:Nat)=(9:Nat)/\(List.map TRoJob.av s)[n3.toNat]? = some (.agg [AV.str s7,iN n8,iN n9,iN n10,iN n11,.slc 3 es12,iN n13,.bool b14,iN n15]))/\∃b17 s18 n19 n20 n21 n22 es23 n24 b25 n26,Sp 86 [AV.agg [AV.str s7,iN n8,iN n9,iN n10,iN n11,.slc 3 es12,iN n13,.bool b14,iN n15],.ref 0 0,.ref 1 0] [[AV.fn (39:FuncId) [] []],f1.cs] (.bool b17) [[AV.fn (39:FuncId) [] []],[AV.str s18,iN n19,iN n20,iN n21,iN n22,.slc 3 es23,iN n24,.bool b25,iN n26]]/\(b17=true->Q (iN n3) [[AV.fn (39:FuncId) [] []],[AV.str s18,iN n19,iN n20,iN n21,iN n22,.slc 3 es23,iN n24,.bool b25,iN n26]])/\(b17=false->yd [AV.fn (39:FuncId) [] []]/\[AV.str s18,iN n19,iN n20,iN n21,iN n22,.slc 3 es23,iN n24,.bool b25,iN n26]=f1.cs/\∃k32,k32<m2/\I0 k32 [iN (IntKind.i64.wrap (n3+1))]))/\(decide (n3<(↑(List.map TRoJob.av s).length:Int))=false->Q (iN (-1:Int)) [[AV.fn (39:FuncId) [] []],f1.cs])
theorem zcL (s:List TRoJob) (f1:TRoJob) (v O) (h:zaI s f1 (fun r O'=>r=v/\O'=O)):Sp 116 [.slc 3 (List.map TRoJob.av s),.fn 86 [] [.ref 0 0,.ref 1 0]] [[.fn 39 [] []],f1.cs] v O :=
 zX ⟨[],[],[],[],[]⟩ 0 ⟨[0,1,4,5,7,8,9,16],[⟨2,[(8,iN 0)],[],[],[],[],[]⟩],[],[]⟩ [⟨81,false,[.fn 39 [] []]⟩,⟨80,false,f1.cs⟩] (by exact trivial) Tryz.func116 Tryz.call116 rfl rfl rfl (by kernel_rfl) h
theorem zbC (s:List TRoJob) (y:TRoJob) (hl:s.length<=1000000):Sp 116 [.slc 3 (List.map TRoJob.av s),.fn 86 [] [.ref 0 0,.ref 1 0]] [[.fn 39 [] []],y.cs] (.int .i64 (yx (fun x=>qG x.Name y.Name) 0 s)) [[.fn 39 [] []],y.cs]:=zcL s y _ _ (by
 refine⟨fun m vs=>∃n:Nat,vs=[.int .i64 n]/\n<=s.length/\m=s.length-n/\yx (fun x=>qG x.Name y.Name) n (s.drop n)=yx (fun x=>qG x.Name y.Name) 0 s,⟨_,0,rfl,by omega,rfl,rfl⟩,?_⟩;rintro m n ⟨k,hk,hle,rfl,hn⟩;cases hk;refine⟨fun h3=>?_,fun h3=>⟨?_,rfl⟩⟩
 ·have h3:k<s.length:=by simpa using h3
  obtain ⟨x,hx,hx'⟩:=yq (f:=TRoJob.av) h3;have hat:=qY (f:=(fun x=>qG x.Name y.Name)) hx;refine⟨x.Name,x.X,x.Y,x.Height,x.Seconds,List.map (AV.int .i64) x.Parts,x.Closure,x.Daylight,x.Value,⟨by omega,rfl,hx'⟩,_,y.Name,y.X,y.Y,y.Height,y.Seconds,List.map (AV.int .i64) y.Parts,y.Closure,y.Daylight,y.Value,c86 x y,fun h4=>⟨?_,rfl⟩,fun h4=>⟨rfl,rfl,_,?_,k+1,?_,by omega,rfl,?_⟩⟩
  ·rw[<- hn,hat,h4];rfl
  ·omega
  ·rw[yr (by omega)]
  ·rw[<- hn,hat,h4];rfl
 ·have:k=s.length:=by simp at h3;omega
  rw[<- hn,this,List.drop_length];rfl)
def R85 (s:List TRoJob) (f1:TRoJob) (Q:yc):Prop :=
 ∃n0 s1 n2 n3 n4 n5 es6 n7 b8 n9,Sp 116 [AV.slc 3 (List.map TRoJob.av s),AV.fn (86:FuncId) [] [AV.ref 0 0,.ref 1 0]] [[AV.fn (39:FuncId) [] []],f1.cs] (iN n0) [[AV.fn (39:FuncId) [] []],[AV.str s1,iN n2,iN n3,iN n4,iN n5,.slc 3 es6,iN n7,.bool b8,iN n9]]/\Q (.bool (decide (n0>=0))) [[AV.fn (39:FuncId) [] []],[AV.str s1,iN n2,iN n3,iN n4,iN n5,.slc 3 es6,iN n7,.bool b8,iN n9]]
theorem s85 (s:List TRoJob) (f1:TRoJob) (v O) (h:R85 s f1 (fun r O'=>r=v/\O'=O)):Sp 85 [.slc 3 (List.map TRoJob.av s),.fn 86 [] [.ref 0 0,.ref 1 0]] [[.fn 39 [] []],f1.cs] v O :=
 zX ⟨[],[],[],[],[]⟩ 0 ⟨[0,1,4],[],[],[]⟩ [⟨81,false,[.fn 39 [] []]⟩,⟨80,false,f1.cs⟩] (by exact trivial) Tryz.func85 Tryz.call85 rfl rfl rfl (by kernel_rfl) h
theorem c85 (s:List TRoJob) (y:TRoJob) (hl:s.length<=1000000):Sp 85 [.slc 3 (List.map TRoJob.av s),.fn 86 [] [.ref 0 0,.ref 1 0]] [[.fn 39 [] []],y.cs] (.bool (s.any (fun x=>qG x.Name y.Name))) [[.fn 39 [] []],y.cs]:=s85 s y _ _ (by
 refine⟨_,y.Name,y.X,y.Y,y.Height,y.Seconds,List.map (AV.int .i64) y.Parts,y.Closure,y.Daylight,y.Value,zbC s y hl,?_,rfl⟩;rw[jn])
def R35 (l:List TRoLorry) (Q:yc):Prop :=
 ∃(I0:Nat->List AV->Prop),(∃m2,I0 m2 [iN 0])/\∀(m2:Nat) (n3:Int),I0 m2 [iN n3]->(decide (n3<(↑(List.map TRoLorry.av l).length:Int))=true->∃s7 n8 n9 n10 n11 n12,((0:Int)<=n3/\(6:Nat)=(6:Nat)/\(List.map TRoLorry.av l)[n3.toNat]? = some (.agg [AV.str s7,iN n8,iN n9,iN n10,iN n11,iN n12]))/\∃n14,Sp 37 [AV.agg [AV.str s7,iN n8,iN n9,iN n10,iN n11,iN n12]] [] (iN n14) []/\∃s16,Sp 36 [AV.agg [AV.str s7,iN n8,iN n9,iN n10,iN n11,iN n12]] [] (.str s16) []/\∃b18,Sp 82 [AV.str s16] [] (.bool b18) []/\((!b18)=true->Q (.tup [iN n3,iN 6]) [])/\((!b18)=false->((0:Int)<=n3/\n3<=(↑(List.map TRoLorry.av l).length:Int))/\∃b23,Sp 83 [AV.slc 3 (List.take n3.toNat (List.map TRoLorry.av l)),AV.fn (84:Nat) [] [AV.ref 0 0,.ref 1 0]] [[AV.fn (36:FuncId) [] []],[AV.str s7,iN n8,iN n9,iN n10,iN n11,iN n12]] (.bool b23) [[AV.fn (36:FuncId) [] []],[AV.str s7,iN n8,iN n9,iN n10,iN n11,iN n12]]/\(b23=true->Q (.tup [iN n3,iN 5]) [])/\(b23=false->((n14 != 0)=true->Q (.tup [iN n3,iN n14]) [])/\((n14 != 0)=false->yd [AV.fn (36:FuncId) [] []]/\∃k30,k30<m2/\I0 k30 [iN (IntKind.i64.wrap (n3+1))]))))/\(decide (n3<(↑(List.map TRoLorry.av l).length:Int))=false->Q (.tup TEncl.zero.cs) [])
theorem s35 (l:List TRoLorry) (v O) (h:R35 l (fun r O'=>r=v/\O'=O)):Sp 35 [.slc 3 (List.map TRoLorry.av l),.fn 36 [] [],.fn 37 [] []] [] v O :=
 zX ⟨[],[],[83,84],[],[]⟩ 0 ⟨[0,1,2,4,6,7,8,9,10,11,12,13,14,21,27,34],[⟨2,[(13,iN 0)],[],[],[],[],[]⟩],[],[]⟩ [] (by exact trivial) Tryz.func35 Tryz.call35 rfl rfl rfl (by kernel_rfl) h
theorem c35 (l:List TRoLorry) (hl:l.length<=1000) (hnm:∀x∈l,x.Name.size<=9223372036854775807):Sp 35 [.slc 3 (List.map TRoLorry.av l),.fn 36 [] [],.fn 37 [] []] [] (.tup [.int .i64 (yO (yE TRoLorry.Name qd l) l.length 0).1,.int .i64 (yO (yE TRoLorry.Name qd l) l.length 0).2]) []:=s35 l _ _ (by
 unfold R35;refine⟨fun m vs=>∃n:Nat,vs=[.int .i64 n]/\n<=l.length/\m=l.length-n/\yO (yE TRoLorry.Name qd l) (l.length-n) n=yO (yE TRoLorry.Name qd l) l.length 0,⟨_,0,rfl,by omega,rfl,rfl⟩,?_⟩;rintro m n ⟨k,hk,hle,rfl,hn⟩;cases hk;refine⟨fun h3=>?_,fun h3=>⟨?_,by trivial⟩⟩
 ·have h3:k<l.length:=by simpa using h3
  obtain ⟨x,hx,hx'⟩:=yq (f:=TRoLorry.av) h3;have hat:=kM (nm:=TRoLorry.Name) (rest:=qd) hx;have hf:=vb (e:=yE TRoLorry.Name qd l) h3;have hmem:x∈l:=List.mem_of_getElem? hx;have htake:List.take (k:Int).toNat (List.map TRoLorry.av l)=List.map TRoLorry.av (l.take k):=by rw[Int.toNat_natCast,List.map_take]
  refine⟨x.Name,x.Lift,x.Room,x.From,x.Until,x.PerHour,⟨by omega,rfl,hx'⟩,_,c37 k x,_,c36 x,_,c82 _ (hnm x hmem),fun h4=>⟨?_,by trivial⟩,fun h4=>⟨⟨by omega,by simp;omega⟩,((l.take k).any fun z=>qG z.Name x.Name),(by rw[htake];exact c83 (l.take k) x (by rw[List.length_take];omega)),fun h5=>⟨?_,by trivial⟩,fun h5=>⟨fun h6=>⟨?_,by trivial⟩,fun h6=>⟨by trivial,_,(by omega:l.length-(k+1)<l.length-k),k+1,?_,by omega,rfl,?_⟩⟩⟩⟩
  ·have he:yE TRoLorry.Name qd l k=6:=by rw[hat,if_pos h4]
   rw[<- hn,hf,he];rfl
  ·have h4':¬ (!jO x.Name)=true:=by rw[h4];simp
   have he:yE TRoLorry.Name qd l k=5:=by rw[hat,if_neg h4',if_pos h5]
   rw[<- hn,hf,he];rfl
  ·have h4':¬ (!jO x.Name)=true:=by rw[h4];simp
   have h5':¬ ((l.take k).any fun z=>qG z.Name x.Name)=true:=by rw[h5];simp
   have he:yE TRoLorry.Name qd l k=qd k x:=by rw[hat,if_neg h4',if_neg h5']
   have h6:qd k x≠0:=by simpa using h6
   rw[<- hn,hf,he,if_pos h6]
  ·rw[yr (by omega)]<;>rfl
  ·have h4':¬ (!jO x.Name)=true:=by rw[h4];simp
   have h5':¬ ((l.take k).any fun z=>qG z.Name x.Name)=true:=by rw[h5];simp
   have he:yE TRoLorry.Name qd l k=qd k x:=by rw[hat,if_neg h4',if_neg h5']
   have h6:qd k x=0:=by simpa using h6
   rw[<- hn,hf,he,if_neg (by simp[h6])]
 ·have:k=l.length:=by simp at h3;omega
  rw[<- hn,this,Nat.sub_self];rfl)
def R38 (l:List TRoJob) (rest0:TRoTask) (Q:yc):Prop :=
 ∃(I0:Nat->List AV->Prop),(∃m2,I0 m2 [iN 0,rest0.av])/\∀(m2:Nat) (n3 n4 n5 n6 n7 n8 n9 n10 n11 n12:Int) (es13 es14 es15 es16:List AV),I0 m2 [iN n3,.agg [iN n4,iN n5,iN n6,iN n7,iN n8,iN n9,iN n10,iN n11,iN n12,.slc 3 es13,.slc 3 es14,.slc 3 es15,.slc 3 es16]]->(decide (n3<(↑(List.map TRoJob.av l).length:Int))=true->∃s20 n21 n22 n23 n24 es25 n26 b27 n28,((0:Int)<=n3/\(9:Nat)=(9:Nat)/\(List.map TRoJob.av l)[n3.toNat]? = some (.agg [AV.str s20,iN n21,iN n22,iN n23,iN n24,.slc 3 es25,iN n26,.bool b27,iN n28]))/\∃n30,Sp 40 [AV.agg [AV.str s20,iN n21,iN n22,iN n23,iN n24,.slc 3 es25,iN n26,.bool b27,iN n28],.ref 0 0] [[iN n4,iN n5,iN n6,iN n7,iN n8,iN n9,iN n10,iN n11,iN n12,.slc 3 es13,.slc 3 es14,.slc 3 es15,.slc 3 es16]] (iN n30) [[iN n4,iN n5,iN n6,iN n7,iN n8,iN n9,iN n10,iN n11,iN n12,.slc 3 es13,.slc 3 es14,.slc 3 es15,.slc 3 es16]]/\∃s32,Sp 39 [AV.agg [AV.str s20,iN n21,iN n22,iN n23,iN n24,.slc 3 es25,iN n26,.bool b27,iN n28]] [] (.str s32) []/\∃b34,Sp 82 [AV.str s32] [] (.bool b34) []/\((!b34)=true->Q (.tup [iN n3,iN 6]) [[iN n4,iN n5,iN n6,iN n7,iN n8,iN n9,iN n10,iN n11,iN n12,.slc 3 es13,.slc 3 es14,.slc 3 es15,.slc 3 es16]])/\((!b34)=false->((0:Int)<=n3/\n3<=(↑(List.map TRoJob.av l).length:Int))/\∃b39,Sp 85 [AV.slc 3 (List.take n3.toNat (List.map TRoJob.av l)),AV.fn (86:Nat) [] [AV.ref 0 0,.ref 1 0]] [[AV.fn (39:FuncId) [] []],[AV.str s20,iN n21,iN n22,iN n23,iN n24,.slc 3 es25,iN n26,.bool b27,iN n28]] (.bool b39) [[AV.fn (39:FuncId) [] []],[AV.str s20,iN n21,iN n22,iN n23,iN n24,.slc 3 es25,iN n26,.bool b27,iN n28]]/\(b39=true->Q (.tup [iN n3,iN 5]) [[iN n4,iN n5,iN n6,iN n7,iN n8,iN n9,iN n10,iN n11,iN n12,.slc 3 es13,.slc 3 es14,.slc 3 es15,.slc 3 es16]])/\(b39=false->((n30 != 0)=true->Q (.tup [iN n3,iN n30]) [[iN n4,iN n5,iN n6,iN n7,iN n8,iN n9,iN n10,iN n11,iN n12,.slc 3 es13,.slc 3 es14,.slc 3 es15,.slc 3 es16]])/\((n30 != 0)=false->yd [AV.fn (39:FuncId) [] []]/\∃k46,k46<m2/\I0 k46 [iN (IntKind.i64.wrap (n3+1)),.agg [iN n4,iN n5,iN n6,iN n7,iN n8,iN n9,iN n10,iN n11,iN n12,.slc 3 es13,.slc 3 es14,.slc 3 es15,.slc 3 es16]]))))/\(decide (n3<(↑(List.map TRoJob.av l).length:Int))=false->Q (.tup TEncl.zero.cs) [[iN n4,iN n5,iN n6,iN n7,iN n8,iN n9,iN n10,iN n11,iN n12,.slc 3 es13,.slc 3 es14,.slc 3 es15,.slc 3 es16]])
theorem s38 (l:List TRoJob) (rest0:TRoTask) (v O) (h:R38 l rest0 (fun r O'=>r=v/\O'=O)):Sp 38 [.slc 3 (List.map TRoJob.av l),.fn 39 [] [],.fn 40 [] [.ref 0 0]] [rest0.cs] v O :=
 zX ⟨[],[],[85,86,40],[],[]⟩ 0 ⟨[0,1,2,4,6,7,8,9,10,11,12,13,14,21,27,34],[⟨2,[(13,iN 0)],[],[(1000000,.agg [iN 0,iN 0,iN 0,iN 0,iN 0,iN 0,iN 0,iN 0,iN 0,.slc 3 [],.slc 3 [],.slc 3 [],.slc 3 []])],[],[],[]⟩],[],[]⟩ [⟨31,false,rest0.cs⟩] (by exact trivial) Tryz.func38 Tryz.call38 rfl rfl rfl (by kernel_rfl) h
theorem c38 (l:List TRoJob) (hl:l.length<=1000) (hnm:∀x∈l,x.Name.size<=9223372036854775807) (t:TRoTask) (hk:t.Kinds.length<=1000) (hc:t.Closures.length<=1000):Sp 38 [.slc 3 (List.map TRoJob.av l),.fn 39 [] [],.fn 40 [] [.ref 0 0]] [t.cs] (.tup [.int .i64 (yO (yE TRoJob.Name (kE t) l) l.length 0).1,.int .i64 (yO (yE TRoJob.Name (kE t) l) l.length 0).2]) [t.cs]:=s38 l t _ _ (by
 unfold R38;refine⟨fun m vs=>∃n:Nat,vs=[.int .i64 n,t.av]/\n<=l.length/\m=l.length-n/\yO (yE TRoJob.Name (kE t) l) (l.length-n) n=yO (yE TRoJob.Name (kE t) l) l.length 0,⟨_,0,rfl,by omega,rfl,rfl⟩,?_⟩;intro m;intros;rename_i hJ;obtain ⟨k,hk,hle,rfl,hn⟩:=hJ;unfold TRoTask.av TRoTask.cs at hk;cases hk;refine⟨fun h3=>?_,fun h3=>⟨?_,by trivial⟩⟩
 ·have h3:k<l.length:=by simpa using h3
  obtain ⟨x,hx,hx'⟩:=yq (f:=TRoJob.av) h3;have hat:=kM (nm:=TRoJob.Name) (rest:=(kE t)) hx;have hf:=vb (e:=yE TRoJob.Name (kE t) l) h3;have hmem:x∈l:=List.mem_of_getElem? hx;have htake:List.take (k:Int).toNat (List.map TRoJob.av l)=List.map TRoJob.av (l.take k):=by rw[Int.toNat_natCast,List.map_take]
  refine⟨x.Name,x.X,x.Y,x.Height,x.Seconds,List.map (AV.int .i64) x.Parts,x.Closure,x.Daylight,x.Value,⟨by omega,rfl,hx'⟩,_,c40 k x t hk hc,_,c39 x,_,c82 _ (hnm x hmem),fun h4=>⟨?_,by trivial⟩,fun h4=>⟨⟨by omega,by simp;omega⟩,((l.take k).any fun z=>qG z.Name x.Name),(by rw[htake];exact c85 (l.take k) x (by rw[List.length_take];omega)),fun h5=>⟨?_,by trivial⟩,fun h5=>⟨fun h6=>⟨?_,by trivial⟩,fun h6=>⟨by trivial,_,(by omega:l.length-(k+1)<l.length-k),k+1,?_,by omega,rfl,?_⟩⟩⟩⟩
  ·have he:yE TRoJob.Name (kE t) l k=6:=by rw[hat,if_pos h4]
   rw[<- hn,hf,he];rfl
  ·have h4':¬ (!jO x.Name)=true:=by rw[h4];simp
   have he:yE TRoJob.Name (kE t) l k=5:=by rw[hat,if_neg h4',if_pos h5]
   rw[<- hn,hf,he];rfl
  ·have h4':¬ (!jO x.Name)=true:=by rw[h4];simp
   have h5':¬ ((l.take k).any fun z=>qG z.Name x.Name)=true:=by rw[h5];simp
   have he:yE TRoJob.Name (kE t) l k=(kE t) k x:=by rw[hat,if_neg h4',if_neg h5']
   have h6:(kE t) k x≠0:=by simpa using h6
   rw[<- hn,hf,he,if_pos h6]
  ·rw[yr (by omega)]<;>rfl
  ·have h4':¬ (!jO x.Name)=true:=by rw[h4];simp
   have h5':¬ ((l.take k).any fun z=>qG z.Name x.Name)=true:=by rw[h5];simp
   have he:yE TRoJob.Name (kE t) l k=(kE t) k x:=by rw[hat,if_neg h4',if_neg h5']
   have h6:(kE t) k x=0:=by simpa using h6
   rw[<- hn,hf,he,if_neg (by simp[h6])]
 ·have:k=l.length:=by simp at h3;omega
  rw[<- hn,this,Nat.sub_self];rfl)
def qg (t:TRoTask):Int × Int × Int :=
 if wI t.City then (1,0,7) else if yz t.Day 0 40000 then (1,0,7) else if wa t.X t.Y then (1,0,7) else if yz t.Pace 0 3600 then (1,0,7) else
 if t.Kinds.length>4 then (2,0,3) else if t.Closures.length>4 then (2,0,3) else if t.Lorries.length>3 then (2,0,3) else if t.Jobs.length>6 then (2,0,3) else
 if yx j5 0 t.Kinds>=0 then (3,yx j5 0 t.Kinds,7) else if yx j7 0 t.Closures>=0 then (4,yx j7 0 t.Closures,7) else
 if (yO (yE TRoLorry.Name qd t.Lorries) t.Lorries.length 0).2≠0 then (5,yO (yE TRoLorry.Name qd t.Lorries) t.Lorries.length 0) else
 if (yO (yE TRoJob.Name (kE t) t.Jobs) t.Jobs.length 0).2≠0 then (6,yO (yE TRoJob.Name (kE t) t.Jobs) t.Jobs.length 0) else (0,0,0)
structure jw (t:TRoTask):Prop where
 lo:∀x∈t.Lorries,x.Name.size<=9223372036854775807
 jo:∀x∈t.Jobs,x.Name.size<=9223372036854775807
abbrev H0 (t:TRoTask) (Q:yc) (p0_:Int):Prop :=
 (p0_ != 0)=false->(decide ((↑(List.map TRoKind.av t.Kinds).length:Int)>(4:Int))=true->Q (.tup [iN 2,iN 0,iN 3]) [])/\(decide ((↑(List.map TRoKind.av t.Kinds).length:Int)>(4:Int))=false->(decide ((↑(List.map TRoSpan.av t.Closures).length:Int)>(4:Int))=true->Q (.tup [iN 2,iN 0,iN 3]) [])/\(decide ((↑(List.map TRoSpan.av t.Closures).length:Int)>(4:Int))=false->(decide ((↑(List.map TRoLorry.av t.Lorries).length:Int)>(3:Int))=true->Q (.tup [iN 2,iN 0,iN 3]) [])/\(decide ((↑(List.map TRoLorry.av t.Lorries).length:Int)>(3:Int))=false->(decide ((↑(List.map TRoJob.av t.Jobs).length:Int)>(6:Int))=true->Q (.tup [iN 2,iN 0,iN 3]) [])/\(decide ((↑(List.map TRoJob.av t.Jobs).length:Int)>(6:Int))=false->∃n26,Sp 32 [AV.slc 3 (List.map TRoKind.av t.Kinds),AV.fn (31:Nat) [] []] [] (iN n26) []/\(decide (n26>=0)=true->Q (.tup [iN 3,iN n26,iN 7]) [])/\(decide (n26>=0)=false->∃n30,Sp 33 [AV.slc 3 (List.map TRoSpan.av t.Closures),AV.fn (34:Nat) [] []] [] (iN n30) []/\(decide (n30>=0)=true->Q (.tup [iN 4,iN n30,iN 7]) [])/\(decide (n30>=0)=false->∃n34 n35,Sp 35 [AV.slc 3 (List.map TRoLorry.av t.Lorries),AV.fn (36:Nat) [] [],AV.fn (37:Nat) [] []] [] (.tup [iN n34,iN n35]) []/\((n35 != 0)=true->Q (.tup [iN 5,iN n34,iN n35]) [])/\((n35 != 0)=false->∃n39 n40 n41 n42 n43 n44 n45 n46 n47 n48 n49 es50 es51 es52 es53,Sp 38 [AV.slc 3 (List.map TRoJob.av t.Jobs),AV.fn (39:Nat) [] [],AV.fn (40:Nat) [] [AV.ref 0 0]] [t.cs] (.tup [iN n39,iN n40]) [[iN n41,iN n42,iN n43,iN n44,iN n45,iN n46,iN n47,iN n48,iN n49,.slc 3 es50,.slc 3 es51,.slc 3 es52,.slc 3 es53]]/\((n40 != 0)=true->Q (.tup [iN 6,iN n39,iN n40]) [])/\((n40 != 0)=false->Q (.tup TRoFault.zero.cs) []))))))))
def R8 (t:TRoTask) (Q:yc):Prop :=
 ∃n0,Sp 28 [t.City.av] [] (iN n0) []/\((n0 == 0)=true->∃b4,Sp 29 [iN t.Day,iN 0,iN 40000] [] (.bool b4) []/\(b4=true->Q (.tup [iN 1,iN 0,iN 7]) [])/\(b4=false->∃b8,Sp 30 [iN t.X,iN t.Y] [] (.bool b8) []/\(b8=true->Q (.tup [iN 1,iN 0,iN 7]) [])/\(b8=false->∃b12,Sp 29 [iN t.Pace,iN 0,iN 3600] [] (.bool b12) []/\(b12=true->Q (.tup [iN 1,iN 0,iN 7]) [])/\(b12=false->((n0 != 0)=true->Q (.tup [iN 1,iN 0,iN n0]) [])/\(H0 t Q n0)))))/\((n0 == 0)=false->((n0 != 0)=true->Q (.tup [iN 1,iN 0,iN n0]) [])/\(H0 t Q n0))
theorem s8 (t:TRoTask) (v O) (h:R8 t (fun r O'=>r=v/\O'=O)):Sp 8 [t.av] [] v O :=
 zS ⟨[0,1,2,3,4,5,27,29,52,58,64,73,84],[],[],[]⟩ Tryz.func8 Tryz.call8 rfl (by kernel_rfl) h
theorem c8 (t:TRoTask) (ht:jw t):Sp 8 [t.av] [] (.tup [.int .i64 (qg t).1,.int .i64 (qg t).2.1,.int .i64 (qg t).2.2]) []:=s8 t _ _ (by
 unfold R8 H0 qg;simp only[List.length_map];refine⟨_,c28 t.City,?_⟩;cases hc:wI t.City with
 |true=>exact⟨fun q=>(by simp at q),fun _=>⟨fun _=>⟨by rfl,by trivial⟩,fun q=>(by simp at q)⟩⟩
 |false =>
 refine⟨fun _=>?_,fun q=>(by simp at q)⟩;simp only[Bool.false_eq_true,if_false];refine⟨_,c29 ..,fun h=>⟨by rw[if_pos h],by trivial⟩,fun h1=>?_⟩;rw[if_neg (by rw[h1];simp)];refine⟨_,c30 ..,fun h=>⟨by rw[if_pos h],by trivial⟩,fun h2=>?_⟩;rw[if_neg (by rw[h2];simp)];refine⟨_,c29 ..,fun h=>⟨by rw[if_pos h],by trivial⟩,fun h3=>?_⟩;rw[if_neg (by rw[h3];simp)];refine⟨fun q=>(by simp at q),fun _=>?_⟩;refine⟨fun h=>⟨by rw[if_pos (by have:=zt_ h;omega)],by trivial⟩,fun h4=>?_⟩;have h4:¬ t.Kinds.length>4:=by have:=zf_ h4;omega
 rw[if_neg h4];refine⟨fun h=>⟨by rw[if_pos (by have:=zt_ h;omega)],by trivial⟩,fun h5=>?_⟩;have h5:¬ t.Closures.length>4:=by have:=zf_ h5;omega
 rw[if_neg h5];refine⟨fun h=>⟨by rw[if_pos (by have:=zt_ h;omega)],by trivial⟩,fun h6=>?_⟩;have h6:¬ t.Lorries.length>3:=by have:=zf_ h6;omega
 rw[if_neg h6];refine⟨fun h=>⟨by rw[if_pos (by have:=zt_ h;omega)],by trivial⟩,fun h7=>?_⟩;have h7:¬ t.Jobs.length>6:=by have:=zf_ h7;omega
 rw[if_neg h7];refine⟨_,c32 t.Kinds (by omega),fun h=>⟨by rw[if_pos (zt_ h)],by trivial⟩,fun h8=>?_⟩;rw[if_neg (zf_ h8)];refine⟨_,c33 t.Closures (by omega),fun h=>⟨by rw[if_pos (zt_ h)],by trivial⟩,fun h9=>?_⟩;rw[if_neg (zf_ h9)];refine⟨_,_,c35 t.Lorries (by omega) ht.lo,fun h=>⟨by rw[if_pos (by simpa using h)],by trivial⟩,fun h10=>?_⟩;rw[if_neg (by simpa using h10)];refine⟨_,_,t.City.Lat,t.City.Lon,t.City.Zone,t.City.Altitude.Lo,t.City.Altitude.Hi,t.Day,t.X,t.Y,t.Pace,List.map TRoKind.av t.Kinds,List.map TRoSpan.av t.Closures,List.map TRoLorry.av t.Lorries,List.map TRoJob.av t.Jobs,c38 t.Jobs (by omega) ht.jo t (by omega) (by omega),fun h=>⟨by rw[if_pos (by simpa using h)],by trivial⟩,fun h11=>?_⟩;rw[if_neg (by simpa using h11)];exact⟨rfl,by trivial⟩)
end Go.Proofs.YtkojpnkknehhmaaGreatDoor

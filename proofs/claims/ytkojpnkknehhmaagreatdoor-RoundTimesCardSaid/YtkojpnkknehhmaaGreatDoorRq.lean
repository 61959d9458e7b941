/- Contracts: tasks that are valid; when jobs can be done. -/
import Derived.Test.YtkojpnkknehhmaaGreatDoorPa
namespace Go.Proofs.YtkojpnkknehhmaaGreatDoor
open Go.IntKind (wrap i64 u64)
open Go.RowKit
structure w7 (t:TRoTask):Prop where
 city:wI t.City=false
 day:yz t.Day 0 40000=false
 away:wa t.X t.Y=false
 pace:yz t.Pace 0 3600=false
 kl:t.Kinds.length<=4
 cl:t.Closures.length<=4
 ll:t.Lorries.length<=3
 jl:t.Jobs.length<=6
 kinds:∀k∈t.Kinds,j5 k=false
 clos:∀s∈t.Closures,j7 s=false
 lor:∀x∈t.Lorries,S0 x=0
 job:∀x∈t.Jobs,MQ t x=0
theorem Ue {α:Type} {nm:α->ByteArray} {rest:Nat->α->Int} {l:List α} (h:(yO (yE nm rest l) l.length 0).2=0):∀x∈l,∃i,rest i x=0:=by
 intro x hx;obtain ⟨i,hi,rfl⟩:=List.getElem_of_mem hx;have h1:=Mz h i (by omega) (by omega);rw[kM (List.getElem?_eq_getElem hi)] at h1;split at h1
 ·simp at h1
 ·split at h1
  ·simp at h1
  ·exact⟨i,h1⟩
theorem Ui {α:Type} {f:α->Bool} {l:List α} (h:¬ yx f 0 l>=0):∀x∈l,f x=false:=by
 have:=jn f l 0;rw[decide_eq_false h] at this;exact fun x hx=>by simpa using List.any_eq_false.1 this.symm x hx
theorem xK {t:TRoTask} (h:(qg t).2.2=0):w7 t:=by
 unfold qg at h;by_cases h0:wI t.City=true
 ·rw[if_pos h0] at h;exact absurd h (by simp)
 rw[if_neg h0] at h;by_cases h1:yz t.Day 0 40000=true
 ·rw[if_pos h1] at h;exact absurd h (by simp)
 rw[if_neg h1] at h;by_cases h2:wa t.X t.Y=true
 ·rw[if_pos h2] at h;exact absurd h (by simp)
 rw[if_neg h2] at h;by_cases h3:yz t.Pace 0 3600=true
 ·rw[if_pos h3] at h;exact absurd h (by simp)
 rw[if_neg h3] at h;by_cases h4:t.Kinds.length>4
 ·rw[if_pos h4] at h;exact absurd h (by simp)
 rw[if_neg h4] at h;by_cases h5:t.Closures.length>4
 ·rw[if_pos h5] at h;exact absurd h (by simp)
 rw[if_neg h5] at h;by_cases h6:t.Lorries.length>3
 ·rw[if_pos h6] at h;exact absurd h (by simp)
 rw[if_neg h6] at h;by_cases h7:t.Jobs.length>6
 ·rw[if_pos h7] at h;exact absurd h (by simp)
 rw[if_neg h7] at h;by_cases h8:yx j5 0 t.Kinds>=0
 ·rw[if_pos h8] at h;exact absurd h (by simp)
 rw[if_neg h8] at h;by_cases h9:yx j7 0 t.Closures>=0
 ·rw[if_pos h9] at h;exact absurd h (by simp)
 rw[if_neg h9] at h;by_cases h10:(yO (yE TRoLorry.Name qd t.Lorries) t.Lorries.length 0).2≠0
 ·rw[if_pos h10] at h;exact absurd h h10
 rw[if_neg h10] at h;by_cases h11:(yO (yE TRoJob.Name (kE t) t.Jobs) t.Jobs.length 0).2≠0
 ·rw[if_pos h11] at h;exact absurd h h11
 rw[if_neg h11] at h;refine⟨by simpa using h0,by simpa using h1,by simpa using h2,by simpa using h3,by omega,by omega,by omega,by omega,Ui h8,Ui h9,fun x hx=>?_,fun x hx=>?_⟩
 ·obtain ⟨_,hi⟩:=Ue (Decidable.not_not.1 h10) x hx;exact hi
 ·obtain ⟨_,hi⟩:=Ue (Decidable.not_not.1 h11) x hx;exact hi
theorem y7 {n lo hi:Int}:yz n lo hi=false↔lo<=n/\n<=hi:=by
 unfold yz;rw[Bool.or_eq_false_iff,decide_eq_false_iff_not,decide_eq_false_iff_not];omega
theorem OE {t:TRoTask} {x:TRoJob} (h:MQ t x=0):x.Parts.length=t.Kinds.length/\(-1<=x.Closure/\x.Closure<=(t.Closures.length:Int)-1)/\wa x.X x.Y=false/\(0<=x.Height/\x.Height<=200)/\(0<=x.Seconds/\x.Seconds<=86400)/\(0<=x.Value/\x.Value<=1000000)/\∀n∈x.Parts,0<=n/\n<=20:=by
 unfold MQ at h;by_cases h0:x.Parts.length≠t.Kinds.length
 ·rw[if_pos h0] at h;exact absurd h (by simp)
 rw[if_neg h0] at h;by_cases h1:yz x.Closure (-1) ((t.Closures.length:Int)-1)=true
 ·rw[if_pos h1] at h;exact absurd h (by simp)
 rw[if_neg h1] at h;by_cases h2:wa x.X x.Y=true
 ·rw[if_pos h2] at h;exact absurd h (by simp)
 rw[if_neg h2] at h;by_cases h3:yz x.Height 0 200=true
 ·rw[if_pos h3] at h;exact absurd h (by simp)
 rw[if_neg h3] at h;by_cases h4:yz x.Seconds 0 86400=true
 ·rw[if_pos h4] at h;exact absurd h (by simp)
 rw[if_neg h4] at h;by_cases h5:yz x.Value 0 1000000=true
 ·rw[if_pos h5] at h;exact absurd h (by simp)
 rw[if_neg h5] at h;by_cases h6:x.Parts.any kL=true
 ·rw[if_pos h6] at h;exact absurd h (by simp)
 rw[if_neg h6] at h;refine⟨Decidable.not_not.1 h0,y7.1 (by simpa using h1),by simpa using h2,y7.1 (by simpa using h3),y7.1 (by simpa using h4),y7.1 (by simpa using h5),fun n hn=>y7.1 ?_⟩;have h6:x.Parts.any kL=false:=by simpa using h6
 have:=List.any_eq_false.1 h6 n hn;unfold kL at this;simpa using this
theorem w7.clo {t:TRoTask} (h:w7 t) {x:TRoJob} (hx:x∈t.Jobs):x.Closure<t.Closures.length:=by
 have:=(OE (h.job x hx)).2.1;omega
def wJ (t:TRoTask) (k:Int):TRoSpan:=t.Closures.getD k.toNat TRoSpan.zero
theorem Nz {t:TRoTask} {k:Int} (h0:k>=0) (h:k<t.Closures.length):(t.Closures.map TRoSpan.av)[k.toNat]? = some (wJ t k).av:=by
 have hl:k.toNat<t.Closures.length:=by omega
 unfold wJ;rw[List.getElem?_map,List.getD_eq_getElem?_getD,List.getElem?_eq_getElem hl];rfl
def wD (t:TRoTask):TRoSpan :=
 if (yZ ⟨t.City,t.Day,true⟩).1=1\/(yZ ⟨t.City,t.Day,true⟩).1=3\/(yZ ⟨t.City,t.Day,false⟩).1=1\/(yZ ⟨t.City,t.Day,false⟩).1=3 then ⟨1,0⟩ else
  ⟨if (yZ ⟨t.City,t.Day,true⟩).1=2 then 0 else (yZ ⟨t.City,t.Day,true⟩).2.1.Hi,if (yZ ⟨t.City,t.Day,false⟩).1=2 then 172800 else (yZ ⟨t.City,t.Day,false⟩).2.1.Lo⟩
def yR (t:TRoTask) (x:TRoJob):TRoSpan :=
 if x.Daylight then wH (if x.Closure>=0 then wH ⟨0,172800⟩ (wJ t x.Closure) else ⟨0,172800⟩) (wD t) else if x.Closure>=0 then wH ⟨0,172800⟩ (wJ t x.Closure) else ⟨0,172800⟩
def ye (t:TRoTask):TDepot:=⟨t,t.Jobs.map (yR t)⟩
theorem SD:Tryz.prog.cellsOf 39=2:=by kernel_rfl
theorem Hz:yf Tryz.prog 39=true:=by kernel_rfl
theorem W5 (L:List TRoSpan):(List.flatMap AV.cells (L.map TRoSpan.av)).length=L.length*2:=by
 induction L with
 |nil=>rfl
 |cons x r ih=>simp only[List.map_cons,List.flatMap_cons,List.length_append,ih,List.length_cons];show 2+_=_;omega
theorem zad (L:List TRoSpan):yn (List.flatMap AV.cells (L.map TRoSpan.av))=true:=by
 unfold yn;rw[List.all_eq_true];intro v hv;obtain ⟨a,ha,hva⟩:=List.mem_flatMap.1 hv;obtain ⟨s,_,rfl⟩:=List.mem_map.1 ha;have:v∈s.cs:=hva;unfold TRoSpan.cs at this;rcases List.mem_cons.1 this with rfl | h
 ·rfl
 ·rw[List.mem_singleton.1 h];rfl
theorem uL (L:List TRoSpan) (s:TRoSpan) (hl:L.length<=1000):yk 2 [s.av]/\((List.flatMap AV.cells (L.map TRoSpan.av)).length=(L.map TRoSpan.av).length*Tryz.prog.cellsOf 39/\((L.map TRoSpan.av).length+1+512)*81<=1125899906842624/\yn s.cs=true/\yn (List.flatMap AV.cells (L.map TRoSpan.av))=true):=by
 refine⟨fun v hv=>by rw[List.mem_singleton.1 hv];rfl,?_,?_,rfl,zad L⟩
 ·rw[W5,List.length_map,SD]
 ·rw[List.length_map];omega
theorem HM (L:List TRoSpan) (_hl:L.length<=1000):0+(L.map TRoSpan.av).length*Tryz.prog.cellsOf 39<=(List.flatMap AV.cells (L.map TRoSpan.av)).length/\((L.map TRoSpan.av).length=(L.map TRoSpan.av).length/\List.flatMap AV.cells (L.map TRoSpan.av)=List.drop 0 (List.flatMap AV.cells (L.map TRoSpan.av))/\jT (Tryz.prog.cellsOf 39) (yf Tryz.prog 39) (L.map TRoSpan.av)):=by
 refine⟨?_,rfl,rfl,fun v hv=>?_⟩
 ·rw[W5,List.length_map,SD];omega
 ·rw[SD,Hz];obtain ⟨s,_,rfl⟩:=List.mem_map.1 hv;exact⟨_,rfl,rfl⟩
def WW (t:TRoTask):AV:=if (qg t).2.2≠0 then .tup [.nilp,.int .i64 (qg t).2.2] else .tup [(ye t).ptr,.int .i64 0]
abbrev Su (t:TRoTask) (p0_ p1_ p2_ p3_ p4_ p5_:Int) (q0_:Bool) (q1_ q2_:Int) (q3_:List AV) (q4_:Nat) (q5_:Nat->List AV->Prop) (q6_:Int):Prop :=
 q0_=true->∃n46 n47,Sp 108 [AV.agg [iN q1_,iN q2_],.agg [iN p0_,iN p1_]] [] (.agg [iN n46,iN n47]) []/\yk (2:Nat) [AV.agg [iN n46,iN n47]]/\((List.flatMap AV.cells q3_).length=q3_.length*Tryz.prog.cellsOf (39:Nat)/\(q3_.length+1+(512:Nat))*81<=(1125899906842624:Nat)/\yn [iN n46,iN n47]=true/\yn (List.flatMap AV.cells q3_)=true)/\t.cs=t.cs/\yd [iN p0_,iN p1_]/\yd [iN t.City.Lat,iN t.City.Lon,iN t.City.Zone,iN t.City.Altitude.Lo,iN t.City.Altitude.Hi,iN t.Day,iN t.X,iN t.Y,iN t.Pace,.slc 3 (List.map TRoKind.av t.Kinds),.slc 3 (List.map TRoSpan.av t.Closures),.slc 3 (List.map TRoLorry.av t.Lorries),.slc 3 (List.map TRoJob.av t.Jobs),.undef]/\yd [iN p0_,iN p1_]/\yd [iN p2_,iN p3_]/\yd [iN p4_,iN p5_]/\yd [iN p3_,iN p4_]/\∃es58,(es58.length=q3_.length+1/\List.flatMap AV.cells es58=List.flatMap AV.cells q3_++[iN n46,iN n47])/\∃k60,k60<q4_/\q5_ k60 [iN (wrap i64 (q6_+1)),.slc 3 es58]
abbrev Sv (t:TRoTask) (p0_ p1_ p2_ p3_ p4_ p5_:Int) (q0_:Bool) (q1_ q2_:Int) (q3_:List AV) (q4_:Nat) (q5_:Nat->List AV->Prop) (q6_:Int):Prop :=
 q0_=false->yk (2:Nat) [AV.agg [iN q1_,iN q2_]]/\((List.flatMap AV.cells q3_).length=q3_.length*Tryz.prog.cellsOf (39:Nat)/\(q3_.length+1+(512:Nat))*81<=(1125899906842624:Nat)/\yn [iN q1_,iN q2_]=true/\yn (List.flatMap AV.cells q3_)=true)/\t.cs=t.cs/\yd [iN p0_,iN p1_]/\yd [iN t.City.Lat,iN t.City.Lon,iN t.City.Zone,iN t.City.Altitude.Lo,iN t.City.Altitude.Hi,iN t.Day,iN t.X,iN t.Y,iN t.Pace,.slc 3 (List.map TRoKind.av t.Kinds),.slc 3 (List.map TRoSpan.av t.Closures),.slc 3 (List.map TRoLorry.av t.Lorries),.slc 3 (List.map TRoJob.av t.Jobs),.undef]/\yd [iN p0_,iN p1_]/\yd [iN p2_,iN p3_]/\yd [iN p4_,iN p5_]/\yd [iN p3_,iN p4_]/\∃es55,(es55.length=q3_.length+1/\List.flatMap AV.cells es55=List.flatMap AV.cells q3_++[iN q1_,iN q2_])/\∃k57,k57<q4_/\q5_ k57 [iN (wrap i64 (q6_+1)),.slc 3 es55]
abbrev Tr (t:TRoTask) (Q:yc) (p0_ p1_ p2_ p3_ p4_ p5_:Int):Prop :=
 ∃(I18:Nat->List AV->Prop),(∃m20,I18 m20 [iN 0,.slc 3 []])/\∀(m20:Nat) (n21:Int) (es22:List AV),I18 m20 [iN n21,.slc 3 es22]->(decide (n21<(↑(List.map TRoJob.av t.Jobs).length:Int))=true->∃s26 n27 n28 n29 n30 es31 n32 b33 n34,((0:Int)<=n21/\(9:Nat)=(9:Nat)/\(List.map TRoJob.av t.Jobs)[n21.toNat]? = some (.agg [AV.str s26,iN n27,iN n28,iN n29,iN n30,.slc 3 es31,iN n32,.bool b33,iN n34]))/\(decide (n32>=0)=true->∃n38 n39,((0:Int)<=n32/\(2:Nat)=(2:Nat)/\(List.map TRoSpan.av t.Closures)[n32.toNat]? = some (.agg [iN n38,iN n39]))/\∃n41 n42,Sp 108 [AV.agg [iN 0,iN 172800],.agg [iN n38,iN n39]] [] (.agg [iN n41,iN n42]) []/\(Su t p0_ p1_ p2_ p3_ p4_ p5_ b33 n41 n42 es22 m20 I18 n21)/\(Sv t p0_ p1_ p2_ p3_ p4_ p5_ b33 n41 n42 es22 m20 I18 n21))/\(decide (n32>=0)=false->(Su t p0_ p1_ p2_ p3_ p4_ p5_ b33 0 172800 es22 m20 I18 n21)/\(Sv t p0_ p1_ p2_ p3_ p4_ p5_ b33 0 172800 es22 m20 I18 n21)))/\(decide (n21<(↑(List.map TRoJob.av t.Jobs).length:Int))=false->(0:Nat)+es22.length*Tryz.prog.cellsOf (39:Nat)<=(List.flatMap AV.cells es22).length/\∃es27,(es27.length=es22.length/\List.flatMap AV.cells es27=List.drop (0:Nat) (List.flatMap AV.cells es22)/\jT (Tryz.prog.cellsOf (39:Nat)) (yf Tryz.prog (39:Nat)) es27)/\Q (.tup [AV.eptr [iN t.City.Lat,iN t.City.Lon,iN t.City.Zone,iN t.City.Altitude.Lo,iN t.City.Altitude.Hi,iN t.Day,iN t.X,iN t.Y,iN t.Pace,.slc 3 (List.map TRoKind.av t.Kinds),.slc 3 (List.map TRoSpan.av t.Closures),.slc 3 (List.map TRoLorry.av t.Lorries),.slc 3 (List.map TRoJob.av t.Jobs),.slc 3 es27] (0:Nat),iN 0]) [])
abbrev Ni (t:TRoTask) (Q:yc) (p0_:Int) (p1_:List AV):Prop :=
 decide (p0_<(↑(List.map TRoJob.av t.Jobs).length:Int))=false->(0:Nat)+p1_.length*Tryz.prog.cellsOf (39:Nat)<=(List.flatMap AV.cells p1_).length/\∃es37,(es37.length=p1_.length/\List.flatMap AV.cells es37=List.drop (0:Nat) (List.flatMap AV.cells p1_)/\jT (Tryz.prog.cellsOf (39:Nat)) (yf Tryz.prog (39:Nat)) es37)/\Q (.tup [AV.eptr [iN t.City.Lat,iN t.City.Lon,iN t.City.Zone,iN t.City.Altitude.Lo,iN t.City.Altitude.Hi,iN t.Day,iN t.X,iN t.Y,iN t.Pace,.slc 3 (List.map TRoKind.av t.Kinds),.slc 3 (List.map TRoSpan.av t.Closures),.slc 3 (List.map TRoLorry.av t.Lorries),.slc 3 (List.map TRoJob.av t.Jobs),.slc 3 es37] (0:Nat),iN 0]) []
abbrev LF (t:TRoTask) (p0_:Bool) (p1_ p2_:Int) (p3_:List AV) (p4_ p5_ p6_ p7_:Int) (p8_:Nat) (p9_:Nat->List AV->Prop) (p10_:Int):Prop :=
 p0_=true->∃n56 n57,Sp 108 [AV.agg [iN p1_,iN p2_],.agg [iN 0,iN 172800]] [] (.agg [iN n56,iN n57]) []/\yk (2:Nat) [AV.agg [iN n56,iN n57]]/\((List.flatMap AV.cells p3_).length=p3_.length*Tryz.prog.cellsOf (39:Nat)/\(p3_.length+1+(512:Nat))*81<=(1125899906842624:Nat)/\yn [iN n56,iN n57]=true/\yn (List.flatMap AV.cells p3_)=true)/\t.cs=t.cs/\yd [AV.lit i64 (0:Int),.lit i64 (172800:Int)]/\yd [iN t.City.Lat,iN t.City.Lon,iN t.City.Zone,iN t.City.Altitude.Lo,iN t.City.Altitude.Hi,iN t.Day,iN t.X,iN t.Y,iN t.Pace,.slc 3 (List.map TRoKind.av t.Kinds),.slc 3 (List.map TRoSpan.av t.Closures),.slc 3 (List.map TRoLorry.av t.Lorries),.slc 3 (List.map TRoJob.av t.Jobs),.undef]/\yd [AV.lit i64 (0:Int),.lit i64 (172800:Int)]/\yd [iN p4_,iN p5_]/\yd [iN p6_,iN p7_]/\yd [AV.lit i64 (0:Int),.lit i64 (172800:Int)]/\∃es68,(es68.length=p3_.length+1/\List.flatMap AV.cells es68=List.flatMap AV.cells p3_++[iN n56,iN n57])/\∃k70,k70<p8_/\p9_ k70 [iN (wrap i64 (p10_+1)),.slc 3 es68]
abbrev LG (t:TRoTask) (p0_:Bool) (p1_ p2_ p3_:Int) (p4_:List AV) (p5_ p6_ p7_:Int) (p8_:Nat) (p9_:Nat->List AV->Prop) (p10_:Int):Prop :=
 p0_=true->∃n56 n57,Sp 108 [AV.agg [iN p1_,iN p2_],.agg [iN p3_,iN 172800]] [] (.agg [iN n56,iN n57]) []/\yk (2:Nat) [AV.agg [iN n56,iN n57]]/\((List.flatMap AV.cells p4_).length=p4_.length*Tryz.prog.cellsOf (39:Nat)/\(p4_.length+1+(512:Nat))*81<=(1125899906842624:Nat)/\yn [iN n56,iN n57]=true/\yn (List.flatMap AV.cells p4_)=true)/\t.cs=t.cs/\yd [iN p3_,.lit i64 (172800:Int)]/\yd [iN t.City.Lat,iN t.City.Lon,iN t.City.Zone,iN t.City.Altitude.Lo,iN t.City.Altitude.Hi,iN t.Day,iN t.X,iN t.Y,iN t.Pace,.slc 3 (List.map TRoKind.av t.Kinds),.slc 3 (List.map TRoSpan.av t.Closures),.slc 3 (List.map TRoLorry.av t.Lorries),.slc 3 (List.map TRoJob.av t.Jobs),.undef]/\yd [iN p3_,.lit i64 (172800:Int)]/\yd [iN p5_,iN p3_]/\yd [iN p6_,iN p7_]/\yd [iN p3_,.lit i64 (172800:Int)]/\∃es68,(es68.length=p4_.length+1/\List.flatMap AV.cells es68=List.flatMap AV.cells p4_++[iN n56,iN n57])/\∃k70,k70<p8_/\p9_ k70 [iN (wrap i64 (p10_+1)),.slc 3 es68]
abbrev LH (t:TRoTask) (p0_:Bool) (p1_ p2_ p3_:Int) (p4_:List AV) (p5_ p6_ p7_:Int) (p8_:Nat) (p9_:Nat->List AV->Prop) (p10_:Int):Prop :=
 p0_=true->∃n56 n57,Sp 108 [AV.agg [iN p1_,iN p2_],.agg [iN 0,iN p3_]] [] (.agg [iN n56,iN n57]) []/\yk (2:Nat) [AV.agg [iN n56,iN n57]]/\((List.flatMap AV.cells p4_).length=p4_.length*Tryz.prog.cellsOf (39:Nat)/\(p4_.length+1+(512:Nat))*81<=(1125899906842624:Nat)/\yn [iN n56,iN n57]=true/\yn (List.flatMap AV.cells p4_)=true)/\t.cs=t.cs/\yd [AV.lit i64 (0:Int),iN p3_]/\yd [iN t.City.Lat,iN t.City.Lon,iN t.City.Zone,iN t.City.Altitude.Lo,iN t.City.Altitude.Hi,iN t.Day,iN t.X,iN t.Y,iN t.Pace,.slc 3 (List.map TRoKind.av t.Kinds),.slc 3 (List.map TRoSpan.av t.Closures),.slc 3 (List.map TRoLorry.av t.Lorries),.slc 3 (List.map TRoJob.av t.Jobs),.undef]/\yd [AV.lit i64 (0:Int),iN p3_]/\yd [iN p5_,iN p6_]/\yd [iN p3_,iN p7_]/\yd [AV.lit i64 (0:Int),iN p3_]/\∃es68,(es68.length=p4_.length+1/\List.flatMap AV.cells es68=List.flatMap AV.cells p4_++[iN n56,iN n57])/\∃k70,k70<p8_/\p9_ k70 [iN (wrap i64 (p10_+1)),.slc 3 es68]
abbrev LI (t:TRoTask) (p0_:Bool) (p1_ p2_:Int) (p3_:List AV) (p4_ p5_ p6_ p7_:Int) (p8_:Nat) (p9_:Nat->List AV->Prop) (p10_:Int):Prop :=
 p0_=false->yk (2:Nat) [AV.agg [iN p1_,iN p2_]]/\((List.flatMap AV.cells p3_).length=p3_.length*Tryz.prog.cellsOf (39:Nat)/\(p3_.length+1+(512:Nat))*81<=(1125899906842624:Nat)/\yn [iN p1_,iN p2_]=true/\yn (List.flatMap AV.cells p3_)=true)/\t.cs=t.cs/\yd [AV.lit i64 (0:Int),.lit i64 (172800:Int)]/\yd [iN t.City.Lat,iN t.City.Lon,iN t.City.Zone,iN t.City.Altitude.Lo,iN t.City.Altitude.Hi,iN t.Day,iN t.X,iN t.Y,iN t.Pace,.slc 3 (List.map TRoKind.av t.Kinds),.slc 3 (List.map TRoSpan.av t.Closures),.slc 3 (List.map TRoLorry.av t.Lorries),.slc 3 (List.map TRoJob.av t.Jobs),.undef]/\yd [AV.lit i64 (0:Int),.lit i64 (172800:Int)]/\yd [iN p4_,iN p5_]/\yd [iN p6_,iN p7_]/\yd [AV.lit i64 (0:Int),.lit i64 (172800:Int)]/\∃es65,(es65.length=p3_.length+1/\List.flatMap AV.cells es65=List.flatMap AV.cells p3_++[iN p1_,iN p2_])/\∃k67,k67<p8_/\p9_ k67 [iN (wrap i64 (p10_+1)),.slc 3 es65]
abbrev LJ (t:TRoTask) (p0_:Bool) (p1_ p2_:Int) (p3_:List AV) (p4_ p5_ p6_ p7_:Int) (p8_:Nat) (p9_:Nat->List AV->Prop) (p10_:Int):Prop :=
 p0_=false->yk (2:Nat) [AV.agg [iN p1_,iN p2_]]/\((List.flatMap AV.cells p3_).length=p3_.length*Tryz.prog.cellsOf (39:Nat)/\(p3_.length+1+(512:Nat))*81<=(1125899906842624:Nat)/\yn [iN p1_,iN p2_]=true/\yn (List.flatMap AV.cells p3_)=true)/\t.cs=t.cs/\yd [iN p4_,.lit i64 (172800:Int)]/\yd [iN t.City.Lat,iN t.City.Lon,iN t.City.Zone,iN t.City.Altitude.Lo,iN t.City.Altitude.Hi,iN t.Day,iN t.X,iN t.Y,iN t.Pace,.slc 3 (List.map TRoKind.av t.Kinds),.slc 3 (List.map TRoSpan.av t.Closures),.slc 3 (List.map TRoLorry.av t.Lorries),.slc 3 (List.map TRoJob.av t.Jobs),.undef]/\yd [iN p4_,.lit i64 (172800:Int)]/\yd [iN p5_,iN p4_]/\yd [iN p6_,iN p7_]/\yd [iN p4_,.lit i64 (172800:Int)]/\∃es65,(es65.length=p3_.length+1/\List.flatMap AV.cells es65=List.flatMap AV.cells p3_++[iN p1_,iN p2_])/\∃k67,k67<p8_/\p9_ k67 [iN (wrap i64 (p10_+1)),.slc 3 es65]
abbrev LK (t:TRoTask) (p0_:Bool) (p1_ p2_:Int) (p3_:List AV) (p4_ p5_ p6_ p7_:Int) (p8_:Nat) (p9_:Nat->List AV->Prop) (p10_:Int):Prop :=
 p0_=false->yk (2:Nat) [AV.agg [iN p1_,iN p2_]]/\((List.flatMap AV.cells p3_).length=p3_.length*Tryz.prog.cellsOf (39:Nat)/\(p3_.length+1+(512:Nat))*81<=(1125899906842624:Nat)/\yn [iN p1_,iN p2_]=true/\yn (List.flatMap AV.cells p3_)=true)/\t.cs=t.cs/\yd [AV.lit i64 (0:Int),iN p4_]/\yd [iN t.City.Lat,iN t.City.Lon,iN t.City.Zone,iN t.City.Altitude.Lo,iN t.City.Altitude.Hi,iN t.Day,iN t.X,iN t.Y,iN t.Pace,.slc 3 (List.map TRoKind.av t.Kinds),.slc 3 (List.map TRoSpan.av t.Closures),.slc 3 (List.map TRoLorry.av t.Lorries),.slc 3 (List.map TRoJob.av t.Jobs),.undef]/\yd [AV.lit i64 (0:Int),iN p4_]/\yd [iN p5_,iN p6_]/\yd [iN p4_,iN p7_]/\yd [AV.lit i64 (0:Int),iN p4_]/\∃es65,(es65.length=p3_.length+1/\List.flatMap AV.cells es65=List.flatMap AV.cells p3_++[iN p1_,iN p2_])/\∃k67,k67<p8_/\p9_ k67 [iN (wrap i64 (p10_+1)),.slc 3 es65]
def R71 (t:TRoTask) (Q:yc):Prop :=
 ∃n0 n1 n2,Sp 8 [t.av] [] (.tup [iN n0,iN n1,iN n2]) []/\((n2 != 0)=true->Q (.tup [AV.nilp,iN n2]) [])/\((n2 != 0)=false->∃n6 n7 n8 n9,Sp 127 [t.City.av,iN t.Day] [] (.tup [iN n6,.agg [iN n7,iN n8],iN n9]) []/\∃n11 n12 n13 n14,Sp 128 [t.City.av,iN t.Day] [] (.tup [iN n11,.agg [iN n12,iN n13],iN n14]) []/\((n6 == 1)=true->Tr t Q 1 0 n7 n8 n12 n13)/\((n6 == 1)=false->((n6 == 3)=true->Tr t Q 1 0 n7 n8 n12 n13)/\((n6 == 3)=false->((n11 == 1)=true->Tr t Q 1 0 n7 n8 n12 n13)/\((n11 == 1)=false->((n11 == 3)=true->Tr t Q 1 0 n7 n8 n12 n13)/\((n11 == 3)=false->((n6 == 2)=true->((n11 == 2)=true->∃(I28:Nat->List AV->Prop),(∃m30,I28 m30 [iN 0,.slc 3 []])/\∀(m30:Nat) (n31:Int) (es32:List AV),I28 m30 [iN n31,.slc 3 es32]->(decide (n31<(↑(List.map TRoJob.av t.Jobs).length:Int))=true->∃s36 n37 n38 n39 n40 es41 n42 b43 n44,((0:Int)<=n31/\(9:Nat)=(9:Nat)/\(List.map TRoJob.av t.Jobs)[n31.toNat]? = some (.agg [AV.str s36,iN n37,iN n38,iN n39,iN n40,.slc 3 es41,iN n42,.bool b43,iN n44]))/\(decide (n42>=0)=true->∃n48 n49,((0:Int)<=n42/\(2:Nat)=(2:Nat)/\(List.map TRoSpan.av t.Closures)[n42.toNat]? = some (.agg [iN n48,iN n49]))/\∃n51 n52,Sp 108 [AV.agg [iN 0,iN 172800],.agg [iN n48,iN n49]] [] (.agg [iN n51,iN n52]) []/\(LF t b43 n51 n52 es32 n7 n8 n12 n13 m30 I28 n31)/\(LI t b43 n51 n52 es32 n7 n8 n12 n13 m30 I28 n31))/\(decide (n42>=0)=false->(LF t b43 0 172800 es32 n7 n8 n12 n13 m30 I28 n31)/\(LI t b43 0 172800 es32 n7 n8 n12 n13 m30 I28 n31)))/\(Ni t Q n31 es32))/\((n11 == 2)=false->∃(I28:Nat->List AV->Prop),(∃m30,I28 m30 [iN 0,.slc 3 []])/\∀(m30:Nat) (n31:Int) (es32:List AV),I28 m30 [iN n31,.slc 3 es32]->(decide (n31<(↑(List.map TRoJob.av t.Jobs).length:Int))=true->∃s36 n37 n38 n39 n40 es41 n42 b43 n44,((0:Int)<=n31/\(9:Nat)=(9:Nat)/\(List.map TRoJob.av t.Jobs)[n31.toNat]? = some (.agg [AV.str s36,iN n37,iN n38,iN n39,iN n40,.slc 3 es41,iN n42,.bool b43,iN n44]))/\(decide (n42>=0)=true->∃n48 n49,((0:Int)<=n42/\(2:Nat)=(2:Nat)/\(List.map TRoSpan.av t.Closures)[n42.toNat]? = some (.agg [iN n48,iN n49]))/\∃n51 n52,Sp 108 [AV.agg [iN 0,iN 172800],.agg [iN n48,iN n49]] [] (.agg [iN n51,iN n52]) []/\(LH t b43 n51 n52 n12 es32 n7 n8 n13 m30 I28 n31)/\(LK t b43 n51 n52 es32 n12 n7 n8 n13 m30 I28 n31))/\(decide (n42>=0)=false->(LH t b43 0 172800 n12 es32 n7 n8 n13 m30 I28 n31)/\(LK t b43 0 172800 es32 n12 n7 n8 n13 m30 I28 n31)))/\(Ni t Q n31 es32)))/\((n6 == 2)=false->((n11 == 2)=true->∃(I28:Nat->List AV->Prop),(∃m30,I28 m30 [iN 0,.slc 3 []])/\∀(m30:Nat) (n31:Int) (es32:List AV),I28 m30 [iN n31,.slc 3 es32]->(decide (n31<(↑(List.map TRoJob.av t.Jobs).length:Int))=true->∃s36 n37 n38 n39 n40 es41 n42 b43 n44,((0:Int)<=n31/\(9:Nat)=(9:Nat)/\(List.map TRoJob.av t.Jobs)[n31.toNat]? = some (.agg [AV.str s36,iN n37,iN n38,iN n39,iN n40,.slc 3 es41,iN n42,.bool b43,iN n44]))/\(decide (n42>=0)=true->∃n48 n49,((0:Int)<=n42/\(2:Nat)=(2:Nat)/\(List.map TRoSpan.av t.Closures)[n42.toNat]? = some (.agg [iN n48,iN n49]))/\∃n51 n52,Sp 108 [AV.agg [iN 0,iN 172800],.agg [iN n48,iN n49]] [] (.agg [iN n51,iN n52]) []/\(LG t b43 n51 n52 n8 es32 n7 n12 n13 m30 I28 n31)/\(LJ t b43 n51 n52 es32 n8 n7 n12 n13 m30 I28 n31))/\(decide (n42>=0)=false->(LG t b43 0 172800 n8 es32 n7 n12 n13 m30 I28 n31)/\(LJ t b43 0 172800 es32 n8 n7 n12 n13 m30 I28 n31)))/\(Ni t Q n31 es32))/\((n11 == 2)=false->Tr t Q n8 n12 n7 n8 n12 n13)))))))
theorem s71 (t:TRoTask) (v O) (h:R71 t (fun r O'=>r=v/\O'=O)):Sp 71 [t.av] [] v O :=
 zX ⟨[],[],[],[(107,⟨[0,2,3,4,6,7,9,11,49,50,51,58,62,65],[],[],[]⟩)],[]⟩ 4 ⟨[0,1,2,3,6,7,8,10,11,19,27,28,29,30,36,46],[⟨7,[(29,iN 0)],[],[],[(23,13,39)],[],[]⟩],[],[(16,2013000023)]⟩ [] (by exact⟨Tryz.call107,trivial⟩) Tryz.func71 Tryz.call71 rfl rfl rfl (by kernel_rfl) h
theorem c71 (t:TRoTask) (ht:jw t):Sp 71 [t.av] [] (WW t) []:=s71 t _ _ (by
 unfold R71 LK LJ LI LH LG LF Ni Tr Sv Su WW;refine⟨_,_,_,c8 t ht,fun h=>⟨by rw[if_pos (by simpa using h)],by trivial⟩,fun h=>?_⟩;rw[if_neg (by simpa using h)];have hv:w7 t:=xK (by simpa using h);have hjl:=hv.jl;refine⟨_,_,_,_,zbI t.City t.Day,_,_,_,_,zbJ t.City t.Day,?_⟩;generalize hR:yZ ⟨t.City,t.Day,true⟩=r at *;generalize hS:yZ ⟨t.City,t.Day,false⟩=s at *;refine⟨fun g1=>?_,fun g1=>⟨fun g2=>?_,fun g2=>⟨fun g3=>?_,fun g3=>⟨fun g4=>?_,fun g4=>⟨fun g5=>⟨fun g6=>?_,fun g6=>?_⟩,fun g5=>⟨fun g6=>?_,fun g6=>?_⟩⟩⟩⟩⟩⟩;all_goals
  simp only[beq_iff_eq,beq_eq_false_iff_ne,ne_eq] at *;obtain ⟨L,hlight⟩:∃L,wD t=L:=⟨_,rfl⟩;have hL:=hlight;unfold wD at hL;rw[hR,hS] at hL;simp[*] at hL;subst hL;refine⟨fun m vs=>∃k:Nat,vs=[.int .i64 k,.slc 3 (((t.Jobs.take k).map (yR t)).map TRoSpan.av)]/\k<=t.Jobs.length/\m=t.Jobs.length-k,⟨_,0,rfl,by omega,rfl⟩,?_⟩;rintro m n es ⟨k,hk,hle,rfl⟩;cases hk;rw[List.length_map];have hl:((t.Jobs.take k).map (yR t)).length<=1000:=by rw[List.length_map,List.length_take];omega
  refine⟨fun h3=>?_,fun h3=>?_⟩
  ·have h3:k<t.Jobs.length:=by have:=zt_ h3;omega
   obtain ⟨x,hx,hx'⟩:=yq (f:=TRoJob.av) h3;have hmem:=List.mem_of_getElem? hx;have step:((t.Jobs.take (k+1)).map (yR t))=(t.Jobs.take k).map (yR t)++[yR t x]:=by rw[List.take_add_one,hx,List.map_append];rfl
   refine⟨_,_,_,_,_,_,_,_,_,⟨by omega,by trivial,hx'⟩,fun hc=>?_,fun hc=>?_⟩
   ·have hc:x.Closure>=0:=zt_ hc;have hlt:=hv.clo hmem;refine⟨_,_,⟨hc,by trivial,Nz hc hlt⟩,_,_,Ga ⟨0,172800⟩ (wJ t x.Closure),fun hd=>?_,fun hd=>?_⟩
    ·have es:yR t x=wH (wH ⟨0,172800⟩ (wJ t x.Closure)) (wD t):=by unfold yR;rw[if_pos hc,if_pos hd]
     have hb:=Ga (wH ⟨0,172800⟩ (wJ t x.Closure)) (wD t);rw[hlight] at es hb;refine⟨_,_,hb,?_⟩;rw[es] at step;refine⟨(uL _ _ hl).1,(uL _ _ hl).2,?_⟩;repeat (first | refine And.intro rfl ?_ | refine And.intro trivial ?_)
     exact⟨((t.Jobs.take (k+1)).map (yR t)).map TRoSpan.av,⟨by rw[step];simp,by rw[step,List.map_append,List.flatMap_append];rfl⟩,_,(by omega:t.Jobs.length-(k+1)<t.Jobs.length-k),k+1,by rw[yr (by omega)],by omega,rfl⟩
    ·have es:yR t x=wH ⟨0,172800⟩ (wJ t x.Closure):=by unfold yR;rw[if_pos hc,if_neg (by rw[hd];simp)]
     rw[es] at step;refine⟨(uL _ _ hl).1,(uL _ _ hl).2,?_⟩;repeat (first | refine And.intro rfl ?_ | refine And.intro trivial ?_)
     exact⟨((t.Jobs.take (k+1)).map (yR t)).map TRoSpan.av,⟨by rw[step];simp,by rw[step,List.map_append,List.flatMap_append];rfl⟩,_,(by omega:t.Jobs.length-(k+1)<t.Jobs.length-k),k+1,by rw[yr (by omega)],by omega,rfl⟩
   ·have hc:¬ x.Closure>=0:=zf_ hc;refine⟨fun hd=>?_,fun hd=>?_⟩
    ·have es:yR t x=wH ⟨0,172800⟩ (wD t):=by unfold yR;rw[if_neg hc,if_pos hd]
     have hb:=Ga ⟨0,172800⟩ (wD t);rw[hlight] at es hb;refine⟨_,_,hb,?_⟩;rw[es] at step;refine⟨(uL _ _ hl).1,(uL _ _ hl).2,?_⟩;repeat (first | refine And.intro rfl ?_ | refine And.intro trivial ?_)
     exact⟨((t.Jobs.take (k+1)).map (yR t)).map TRoSpan.av,⟨by rw[step];simp,by rw[step,List.map_append,List.flatMap_append];rfl⟩,_,(by omega:t.Jobs.length-(k+1)<t.Jobs.length-k),k+1,by rw[yr (by omega)],by omega,rfl⟩
    ·have es:yR t x=⟨0,172800⟩:=by unfold yR;rw[if_neg hc,if_neg (by rw[hd];simp)]
     rw[es] at step;refine⟨(uL _ ⟨0,172800⟩ hl).1,(uL _ ⟨0,172800⟩ hl).2,?_⟩;repeat (first | refine And.intro rfl ?_ | refine And.intro trivial ?_)
     exact⟨((t.Jobs.take (k+1)).map (yR t)).map TRoSpan.av,⟨by rw[step];simp,by rw[step,List.map_append,List.flatMap_append];rfl⟩,_,(by omega:t.Jobs.length-(k+1)<t.Jobs.length-k),k+1,by rw[yr (by omega)],by omega,rfl⟩
  ·have h3:k=t.Jobs.length:=by have:=zf_ h3;omega
   subst h3;refine⟨(HM _ hl).1,_,(HM _ hl).2,?_,by trivial⟩;rw[List.take_length];rfl)
end Go.Proofs.YtkojpnkknehhmaaGreatDoor

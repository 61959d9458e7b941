/- Contracts: what is wrong with a plan; what it is worth. -/
import Derived.Test.YtkojpnkknehhmaaGreatDoorSi
namespace Go.Proofs.YtkojpnkknehhmaaGreatDoor
open Go.IntKind (wrap i64 u64)
open Go.RowKit
structure JSt where
 closed:Int
 faults:List TRoFault
 tour:TTour
 done:List Int
structure JAll where
 faults:List TRoFault
 value:Int
 cost:Int
 done:List Int
def Lc (D:List Int) (n:Int):List Int:=if n∈D then D else D++[n]
def P0 (b:Bool) (l:List TRoFault) (e i n:Int):List TRoFault:=if b then l++[⟨e,i,n⟩] else l
def kT (d:TDepot) (r:TTour) (c n:Int):Int:=if !qe d r n && decide (c<0) then n else c
def Sk (d:TDepot) (r:TTour) (c n:Int):TTour:=if c>=0 then { yN d r n with now:=r.now,last:=r.last,stops:=r.stops } else yN d r n
def xX (i:Int) (s:JSt) (n:Int):List TRoFault:=P0 (decide (n∈s.done)) s.faults 210 i n
def Yn (d:TDepot) (i:Int) (s:JSt) (n:Int):List TRoFault:=P0 (decide ((qk d.RoTask n).Height>s.tour.RoLorry.Lift)) (xX i s n) 211 i n
def PI (d:TDepot) (i:Int) (s:JSt) (n:Int):JSt:=⟨kT d s.tour s.closed n,Yn d i s n,Sk d s.tour (kT d s.tour s.closed n) n,Lc s.done n⟩
def S9 (d:TDepot) (i:Int) (l:List TRoFault) (D L:List Int):JSt:=L.foldl (PI d i) ⟨-1,l,yF d i,D⟩
def Yo (i:Int) (s:JSt):List TRoFault:=P0 (decide (s.tour.room<0)) s.faults 212 i (-1)
def uD (d:TDepot) (i:Int) (s:JSt):List TRoFault:=if s.closed>=0 then Yo i s++[⟨213,i,s.closed⟩] else P0 (decide (ug d s.tour>s.tour.RoLorry.Until)) (Yo i s) 214 i (-1)
def GD (d:TDepot) (i:Int) (a:JAll) (s:JSt):JAll:=⟨uD d i s,wrap i64 (a.value+s.tour.value),wrap i64 (a.cost+NA d s.tour),s.done⟩
def Uu (d:TDepot):Nat->JAll->List (List Int)->JAll
 |_,a,[]=>a
 |i,a,L::r=>Uu d (i+1) (GD d i a (S9 d i a.faults a.done L)) r
def vI (d:TDepot) (plan:List (List Int)):JAll:=Uu d 0 ⟨[],0,0,[]⟩ plan
def YC (D:List Int):List AV:=D.map fun n=>.agg [.int .i64 n,.bool true]
def Fa (d:TDepot) (s:JSt):List AV:=[.int .i64 s.closed,.slc 3 (s.faults.map TRoFault.av),(s.tour.on d).av,.agg [.iface 1000000 (.slc 3 (YC s.done))]]
theorem D8 (c:Value):PS Tryz.prog 3 c=MapKept.IsKey (.int .i64) c:=by kernel_rfl
theorem GK (d:Int):xu Tryz.prog 3 (.int .i64 d):=⟨.int .i64 d,rfl,by rw[D8];rfl⟩
theorem HH (D:List Int):kK Tryz.prog 3 (YC D):=by
 intro x hx;obtain ⟨n,_,rfl⟩:=List.mem_map.1 hx;exact⟨_,_,rfl,GK n⟩
theorem S1 {D:List Int} {n:Int} {j:Nat} {v:AV} (h:(YC D)[j]? = some (.agg [.int .i64 n,v])):D[j]? = some n/\v=.bool true:=by
 unfold YC at h;rw[List.getElem?_map] at h;obtain ⟨m,h1,h2⟩:=Option.map_eq_some_iff.1 h;cases h2;exact⟨h1,rfl⟩
theorem Pp {D:List Int} {n:Int} {v:AV} (h:AV.agg [.int .i64 n,v]∈YC D):n∈D:=by
 obtain ⟨j,hj⟩:=List.mem_iff_getElem?.1 h;exact List.mem_of_getElem? (S1 hj).1
theorem IB {D:List Int} (hD:D.Nodup) (n:Int):ua (.bool false) (YC D) (.int .i64 n) (decide (n∈D)) (.bool (decide (n∈D))):=by
 unfold ua;by_cases h:n∈D
 ·rw[if_pos (decide_eq_true h),decide_eq_true h];obtain ⟨i,hi⟩:=List.mem_iff_getElem?.1 h;have hl:i<D.length:=(List.getElem?_eq_some_iff.1 hi).1;exact⟨i,by unfold YC;rw[List.getElem?_map,hi];rfl,fun j v' hj=>((List.getElem?_inj hl hD).1 (by rw[hi,(S1 hj).1])).symm⟩
 ·rw[if_neg (by simpa using h),decide_eq_false h];exact⟨fun v' hm=>h (Pp hm),rfl⟩
theorem IW {D:List Int} (hD:D.Nodup) (n:Int):xP (YC D) (.int .i64 n) (.bool true) (YC (Lc D n)):=by
 unfold Lc;by_cases h:n∈D
 ·rw[if_pos h];obtain ⟨i,hi⟩:=List.mem_iff_getElem?.1 h;have hl:i<D.length:=(List.getElem?_eq_some_iff.1 hi).1;have hm:(YC D)[i]? = some (.agg [.int .i64 n,.bool true]):=by unfold YC;rw[List.getElem?_map,hi];rfl
  refine .inl ⟨i,_,hm,fun j v' hj=>((List.getElem?_inj hl hD).1 (by rw[hi,(S1 hj).1])).symm,?_⟩;obtain ⟨h1,h2⟩:=List.getElem?_eq_some_iff.1 hm;rw[<- h2,List.set_getElem_self]
 ·rw[if_neg h];exact .inr ⟨fun v' hm=>h (Pp hm),by unfold YC;rw[List.map_append];rfl⟩
theorem OU {D:List Int} (hD:D.Nodup) (n:Int):(Lc D n).Nodup:=by
 unfold Lc;split
 ·exact hD
 ·rename_i h;refine List.nodup_append.2 ⟨hD,by simp,fun a ha b hb=>?_⟩;rw[List.mem_singleton] at hb;subst hb;rintro rfl;exact h ha
theorem W3:Tryz.prog.cellsOf 55=3:=by kernel_rfl
theorem H3:yf Tryz.prog 55=true:=by kernel_rfl
theorem W4 (L:List TRoFault):(List.flatMap AV.cells (L.map TRoFault.av)).length=L.length*3:=by
 induction L with
 |nil=>rfl
 |cons x r ih=>simp only[List.map_cons,List.flatMap_cons,List.length_append,ih,List.length_cons];show 3+_=_;omega
theorem zac (L:List TRoFault):yn (List.flatMap AV.cells (L.map TRoFault.av))=true:=by
 unfold yn;rw[List.all_eq_true];intro v hv;obtain ⟨a,ha,hva⟩:=List.mem_flatMap.1 hv;obtain ⟨s,_,rfl⟩:=List.mem_map.1 ha;have:v∈s.cs:=hva;unfold TRoFault.cs at this;rcases List.mem_cons.1 this with rfl | h
 ·rfl
 rcases List.mem_cons.1 h with rfl | h
 ·rfl
 ·rw[List.mem_singleton.1 h];rfl
theorem xT (L:List TRoFault) (hl:L.length<=1000) (e i n:Int):yk 3 [AV.agg [.int .i64 e,.int .i64 i,.int .i64 n]]/\((List.flatMap AV.cells (L.map TRoFault.av)).length=(L.map TRoFault.av).length*Tryz.prog.cellsOf 55/\((L.map TRoFault.av).length+1+512)*121<=1125899906842624/\yn [AV.int .i64 e,.int .i64 i,.int .i64 n]=true/\yn (List.flatMap AV.cells (L.map TRoFault.av))=true):=by
 refine⟨fun v hv=>by rw[List.mem_singleton.1 hv];rfl,?_,?_,rfl,zac L⟩
 ·rw[W4,List.length_map,W3]
 ·rw[List.length_map];omega
theorem Uh (L:List TRoFault) (e i n:Int):((L++[(⟨e,i,n⟩:TRoFault)]).map TRoFault.av).length=(L.map TRoFault.av).length+1/\List.flatMap AV.cells ((L++[(⟨e,i,n⟩:TRoFault)]).map TRoFault.av)=List.flatMap AV.cells (L.map TRoFault.av)++[.int .i64 e,.int .i64 i,.int .i64 n]:=by
 rw[List.map_append,List.flatMap_append,List.length_append];exact⟨rfl,rfl⟩
theorem GH (L:List TRoFault):0+(L.map TRoFault.av).length*Tryz.prog.cellsOf 55<=(List.flatMap AV.cells (L.map TRoFault.av)).length/\chunks (Tryz.prog.cellsOf 55) (yf Tryz.prog 55) (L.map TRoFault.av).length (List.drop 0 (List.flatMap AV.cells (L.map TRoFault.av)))=L.map TRoFault.av:=by
 refine⟨by rw[W4,List.length_map,W3];omega,?_⟩;rw[List.drop_zero];refine uQ fun v hv=>?_
 rw[W3,H3];obtain ⟨s,_,rfl⟩:=List.mem_map.1 hv;exact⟨_,rfl,rfl⟩
theorem WS {b:Bool} (h:b=true) (l:List TRoFault) (e i n:Int):P0 b l e i n=l++[⟨e,i,n⟩]:=if_pos h
theorem WR {b:Bool} (h:b=false) (l:List TRoFault) (e i n:Int):P0 b l e i n=l:=if_neg (by rw[h];simp)
theorem xY (b:Bool) (l:List TRoFault) (e i n:Int):(P0 b l e i n).length<=l.length+1:=by
 cases b
 ·rw[WR rfl];omega
 ·rw[WS rfl,List.length_append];exact Nat.le_refl _
theorem Ty {d:TDepot} {r:TTour} {c n:Int} (h:(!qe d r n)=true) (hc:decide (c<0)=true):kT d r c n=n:=by unfold kT;rw[h,hc];rfl
theorem Tz {d:TDepot} {r:TTour} {c n:Int} (hc:decide (c<0)=false):kT d r c n=c:=by unfold kT;rw[hc,Bool.and_false];rfl
theorem TA {d:TDepot} {r:TTour} {c n:Int} (h:(!qe d r n)=false):kT d r c n=c:=by unfold kT;rw[h];rfl
theorem wZ {d:TDepot} {i:Int} {s:JSt} {n c:Int} {r':TTour} (hc:kT d s.tour s.closed n=c) (ht:Sk d s.tour c n=r') :
  [.int .i64 c,.slc 3 ((Yn d i s n).map TRoFault.av),(r'.on d).av,.agg [.iface 1000000 (.slc 3 (YC (Lc s.done n)))]]=Fa d (PI d i s n):=by
 subst hc;subst ht;rfl
theorem Nb {d:TDepot} {r:TTour} {c n k:Int} (h:r.last<k) (hn:n<k):(Sk d r c n).last<k/\(Sk d r c n).stops.length<=r.stops.length+1:=by
 unfold Sk;split
 ·exact⟨h,Nat.le_succ _⟩
 ·by_cases hv:qe d r n=true
  ·obtain ⟨v1,v2⟩:=wy hv;exact⟨by rw[v1];exact hn,by rw[v2];exact Nat.le_refl _⟩
  ·unfold yN;rw[if_neg hv];exact⟨h,Nat.le_succ _⟩
theorem MU (d:TDepot) (i:Int) (s:JSt) (n:Int):(Yn d i s n).length<=s.faults.length+2:=by
 have h1:(Yn d i s n).length<=(xX i s n).length+1:=xY ..;have h2:(xX i s n).length<=s.faults.length+1:=xY ..;omega
theorem MS {d:TDepot} {P:List (List Int)} {k:Nat} (h:k<P.length) (a:JAll):Uu d k a (P.drop k)=Uu d (k+1) (GD d k a (S9 d k a.faults a.done P[k])) (P.drop (k+1)):=by
 rw[List.drop_eq_getElem_cons h];rfl
theorem Ix {α:Type} {f:α->Int->α} {L:List Int} {k:Nat} (h:k<L.length) (s:α):(L.drop k).foldl f s=(L.drop (k+1)).foldl f (f s L[k]):=by
 rw[List.drop_eq_getElem_cons h];rfl
structure Nh (d:TDepot) (plan:List (List Int)):Prop where
 len:plan.length<=d.RoTask.Lorries.length
 few:d.RoTask.Lorries.length<=3
 small:∀x∈plan,x.length<=7
 jobs:∀x∈plan,∀n∈x,0<=n/\n<d.RoTask.Jobs.length
structure Sr (d:TDepot) (plan:List (List Int)):Prop where
 len:plan.length<=d.RoTask.Lorries.length
 few:d.RoTask.Lorries.length<=3
 small:∀x∈plan,x.length<=6
 jobs:∀x∈plan,∀n∈x,0<=n/\n<d.RoTask.Jobs.length
def OG (d:TDepot) (plan:List (List Int)):AV:=.tup [.slc 3 ((vI d plan).faults.map TRoFault.av),.int .i64 (vI d plan).value,.int .i64 (vI d plan).cost]
abbrev WQ (p0_:List AV) (p1_:List AV->Prop) (p2_:Int) (p3_:ByteArray) (p4_ p5_ p6_ p7_ p8_ p9_ p10_ p11_ p12_ p13_ p14_ p15_ p16_ p17_:Int) (p18_ p19_ p20_ p21_ p22_:List AV) (p23_ p24_:Int) (p25_:List AV) (p26_ p27_ p28_:Int) (p29_:List AV):Prop :=
 ∃es115,(es115.length=p0_.length/\List.flatMap AV.cells es115=List.flatMap AV.cells p0_)/\p1_ [iN p2_,.slc 3 es115,.agg [AV.str p3_,iN p4_,iN p5_,iN p6_,iN p7_,iN p8_,.eptr [iN p9_,iN p10_,iN p11_,iN p12_,iN p13_,iN p14_,iN p15_,iN p16_,iN p17_,.slc 3 p18_,.slc 3 p19_,.slc 3 p20_,.slc 3 p21_,.slc 3 p22_] (0:Nat),iN p23_,iN p24_,.slc 3 p25_,iN p26_,iN p27_,iN p28_],.agg [AV.iface 1000000 (.slc 3 p29_)]]
def R67 (d:TDepot) (plan:List (List Int)) (Q:yc):Prop :=
 ∃(I0:Nat->List AV->Prop),(∃m2,I0 m2 [iN 0,iN 0,iN 0,.slc 3 [],.agg [AV.iface 1000000 (.slc 3 [])]])/\∀(m2:Nat) (n3 n4 n5:Int) (es6 es7:List AV),I0 m2 [iN n3,iN n4,iN n5,.slc 3 es6,.agg [AV.iface 1000000 (.slc 3 es7)]]->(decide (n5<(↑(List.map (fun x=>AV.slc 3 (List.map (AV.int i64) x)) plan).length:Int))=true->∃es11,((0:Int)<=n5/\(1:Nat)=(1:Nat)/\(List.map (fun x=>AV.slc 3 (List.map (AV.int i64) x)) plan)[n5.toNat]? = some (.slc 3 es11))/\∃s13 n14 n15 n16 n17 n18 n19 n20 n21 n22 n23 n24 n25 n26 n27 es28 es29 es30 es31 es32 n33 n34 es35 n36 n37 n38,Sp 60 [AV.eptr d.cs (0:Nat),iN n5] [] (.agg [AV.str s13,iN n14,iN n15,iN n16,iN n17,iN n18,.eptr [iN n19,iN n20,iN n21,iN n22,iN n23,iN n24,iN n25,iN n26,iN n27,.slc 3 es28,.slc 3 es29,.slc 3 es30,.slc 3 es31,.slc 3 es32] (0:Nat),iN n33,iN n34,.slc 3 es35,iN n36,iN n37,iN n38]) []/\∃(I40:Nat->List AV->Prop),(∃es42,(es42.length=es6.length/\List.flatMap AV.cells es42=List.flatMap AV.cells es6)/\∃m44,I40 m44 [iN (-1:Int),iN 0,.slc 3 es42,.agg [AV.str s13,iN n14,iN n15,iN n16,iN n17,iN n18,.eptr [iN n19,iN n20,iN n21,iN n22,iN n23,iN n24,iN n25,iN n26,iN n27,.slc 3 es28,.slc 3 es29,.slc 3 es30,.slc 3 es31,.slc 3 es32] (0:Nat),iN n33,iN n34,.slc 3 es35,iN n36,iN n37,iN n38],.agg [AV.iface 1000000 (.slc 3 es7)]])/\∀(m42:Nat) (n43 n44:Int) (es45:List AV) (s46:ByteArray) (n47 n48 n49 n50 n51 n52 n53 n54 n55 n56 n57 n58 n59 n60:Int) (es61 es62 es63 es64 es65:List AV) (n66 n67:Int) (es68:List AV) (n69 n70 n71:Int) (es72:List AV),I40 m42 [iN n43,iN n44,.slc 3 es45,.agg [AV.str s46,iN n47,iN n48,iN n49,iN n50,iN n51,.eptr [iN n52,iN n53,iN n54,iN n55,iN n56,iN n57,iN n58,iN n59,iN n60,.slc 3 es61,.slc 3 es62,.slc 3 es63,.slc 3 es64,.slc 3 es65] (0:Nat),iN n66,iN n67,.slc 3 es68,iN n69,iN n70,iN n71],.agg [AV.iface 1000000 (.slc 3 es72)]]->(decide (n44<(↑es11.length:Int))=true->∃(J76:List AV->Prop),(∃n78,((0:Int)<=n44/\(1:Nat)=(1:Nat)/\es11[n44.toNat]? = some (iN n78))/\∃(J80:List AV->Prop),(kK Tryz.prog (3:Nat) es72/\xu Tryz.prog (3:Nat) (iN n78)/\∃b84 f85,ua (.bool false) es72 (iN n78) f85 (.bool b84)/\(b84=true->yk (3:Nat) [AV.agg [iN 210,iN n5,iN n78]]/\((List.flatMap AV.cells es45).length=es45.length*Tryz.prog.cellsOf (55:Nat)/\(es45.length+1+(512:Nat))*121<=(1125899906842624:Nat)/\yn [iN 210,iN n5,iN n78]=true/\yn (List.flatMap AV.cells es45)=true)/\yd [AV.undef]/\yd [iN n5]/\yd [AV.str s46,iN n47,iN n48,iN n49,iN n50,iN n51,.eptr [iN n52,iN n53,iN n54,iN n55,iN n56,iN n57,iN n58,iN n59,iN n60,.slc 3 es61,.slc 3 es62,.slc 3 es63,.slc 3 es64,.slc 3 es65] (0:Nat),iN n66,iN n67,.slc 3 es68,iN n69,iN n70,iN n71]/\yd [AV.iface 1000000 (.slc 3 es72)]/\∃es95,(es95.length=es45.length+1/\List.flatMap AV.cells es95=List.flatMap AV.cells es45++[iN 210,iN n5,iN n78])/\J80 [AV.slc 3 es95])/\(b84=false->yd [AV.undef]/\yd [iN n5]/\yd [AV.str s46,iN n47,iN n48,iN n49,iN n50,iN n51,.eptr [iN n52,iN n53,iN n54,iN n55,iN n56,iN n57,iN n58,iN n59,iN n60,.slc 3 es61,.slc 3 es62,.slc 3 es63,.slc 3 es64,.slc 3 es65] (0:Nat),iN n66,iN n67,.slc 3 es68,iN n69,iN n70,iN n71]/\yd [AV.iface 1000000 (.slc 3 es72)]/\∃es93,(es93.length=es45.length/\List.flatMap AV.cells es93=List.flatMap AV.cells es45)/\J80 [AV.slc 3 es93]))/\∀(es82:List AV),J80 [AV.slc 3 es82]->∃(J84:List AV->Prop),(∃s86 n87 n88 n89 n90 es91 n92 b93 n94,((0:Int)<=n78/\(9:Nat)=(9:Nat)/\(List.map TRoJob.av d.RoTask.Jobs)[n78.toNat]? = some (.agg [AV.str s86,iN n87,iN n88,iN n89,iN n90,.slc 3 es91,iN n92,.bool b93,iN n94]))/\(decide (n89>n47)=true->yk (3:Nat) [AV.agg [iN 211,iN n5,iN n78]]/\((List.flatMap AV.cells es82).length=es82.length*Tryz.prog.cellsOf (55:Nat)/\(es82.length+1+(512:Nat))*121<=(1125899906842624:Nat)/\yn [iN 211,iN n5,iN n78]=true/\yn (List.flatMap AV.cells es82)=true)/\yd [AV.undef]/\yd [iN n5]/\yd [AV.str s46,iN n47,iN n48,iN n49,iN n50,iN n51,.eptr [iN n52,iN n53,iN n54,iN n55,iN n56,iN n57,iN n58,iN n59,iN n60,.slc 3 es61,.slc 3 es62,.slc 3 es63,.slc 3 es64,.slc 3 es65] (0:Nat),iN n66,iN n67,.slc 3 es68,iN n69,iN n70,iN n71]/\yd [AV.iface 1000000 (.slc 3 es72)]/\∃es104,(es104.length=es82.length+1/\List.flatMap AV.cells es104=List.flatMap AV.cells es82++[iN 211,iN n5,iN n78])/\J84 [AV.slc 3 es104])/\(decide (n89>n47)=false->yd [AV.undef]/\yd [iN n5]/\yd [AV.str s46,iN n47,iN n48,iN n49,iN n50,iN n51,.eptr [iN n52,iN n53,iN n54,iN n55,iN n56,iN n57,iN n58,iN n59,iN n60,.slc 3 es61,.slc 3 es62,.slc 3 es63,.slc 3 es64,.slc 3 es65] (0:Nat),iN n66,iN n67,.slc 3 es68,iN n69,iN n70,iN n71]/\yd [AV.iface 1000000 (.slc 3 es72)]/\∃es102,(es102.length=es82.length/\List.flatMap AV.cells es102=List.flatMap AV.cells es82)/\J84 [AV.slc 3 es102]))/\∀(es86:List AV),J84 [AV.slc 3 es86]->kK Tryz.prog (3:Nat) es72/\xu Tryz.prog (3:Nat) (iN n78)/\∃es'90,xP es72 (iN n78) (.bool true) es'90/\∃b92 s93 n94 n95 n96 n97 n98,∃v99:AV,∃n100 n101 es102 n103 n104 n105,Sp 61 [AV.ref 0 0,iN n78] [[AV.str s46,iN n47,iN n48,iN n49,iN n50,iN n51,.eptr [iN n52,iN n53,iN n54,iN n55,iN n56,iN n57,iN n58,iN n59,iN n60,.slc 3 es61,.slc 3 es62,.slc 3 es63,.slc 3 es64,.slc 3 es65] (0:Nat),iN n66,iN n67,.slc 3 es68,iN n69,iN n70,iN n71]] (.bool b92) [[AV.str s93,iN n94,iN n95,iN n96,iN n97,iN n98,.eptr [iN n52,iN n53,iN n54,iN n55,iN n56,iN n57,iN n58,iN n59,iN n60,.slc 3 es61,.slc 3 es62,.slc 3 es63,.slc 3 es64,.slc 3 es65] (0:Nat),iN n100,iN n101,.slc 3 es102,iN n103,iN n104,iN n105]]/\((!b92)=true->(decide (n43<0)=true->(decide (n78>=0)=true->yd [AV.undef]/\yd [iN n5]/\WQ es86 J76 n78 s93 n94 n95 n96 n97 n98 n52 n53 n54 n55 n56 n57 n58 n59 n60 es61 es62 es63 es64 es65 n66 n67 es68 n103 n104 n105 es'90)/\(decide (n78>=0)=false->yd [AV.undef]/\yd [iN n5]/\WQ es86 J76 n78 s93 n94 n95 n96 n97 n98 n52 n53 n54 n55 n56 n57 n58 n59 n60 es61 es62 es63 es64 es65 n100 n101 es102 n103 n104 n105 es'90))/\(decide (n43<0)=false->(decide (n43>=0)=true->yd [AV.undef]/\yd [iN n5]/\WQ es86 J76 n43 s93 n94 n95 n96 n97 n98 n52 n53 n54 n55 n56 n57 n58 n59 n60 es61 es62 es63 es64 es65 n66 n67 es68 n103 n104 n105 es'90)/\(decide (n43>=0)=false->yd [AV.undef]/\yd [iN n5]/\WQ es86 J76 n43 s93 n94 n95 n96 n97 n98 n52 n53 n54 n55 n56 n57 n58 n59 n60 es61 es62 es63 es64 es65 n100 n101 es102 n103 n104 n105 es'90)))/\((!b92)=false->(decide (n43>=0)=true->yd [AV.undef]/\yd [iN n5]/\WQ es86 J76 n43 s93 n94 n95 n96 n97 n98 n52 n53 n54 n55 n56 n57 n58 n59 n60 es61 es62 es63 es64 es65 n66 n67 es68 n103 n104 n105 es'90)/\(decide (n43>=0)=false->yd [AV.undef]/\yd [iN n5]/\WQ es86 J76 n43 s93 n94 n95 n96 n97 n98 n52 n53 n54 n55 n56 n57 n58 n59 n60 es61 es62 es63 es64 es65 n100 n101 es102 n103 n104 n105 es'90)))/\∀(n78:Int) (es79:List AV) (s80:ByteArray) (n81 n82 n83 n84 n85 n86 n87 n88 n89 n90 n91 n92 n93 n94:Int) (es95 es96 es97 es98 es99:List AV) (n100 n101:Int) (es102:List AV) (n103 n104 n105:Int) (es106:List AV),J76 [iN n78,.slc 3 es79,.agg [AV.str s80,iN n81,iN n82,iN n83,iN n84,iN n85,.eptr [iN n86,iN n87,iN n88,iN n89,iN n90,iN n91,iN n92,iN n93,iN n94,.slc 3 es95,.slc 3 es96,.slc 3 es97,.slc 3 es98,.slc 3 es99] (0:Nat),iN n100,iN n101,.slc 3 es102,iN n103,iN n104,iN n105],.agg [AV.iface 1000000 (.slc 3 es106)]]->yd [AV.undef]/\yd [iN n5]/\∃es110,(es110.length=es79.length/\List.flatMap AV.cells es110=List.flatMap AV.cells es79)/\∃k112,k112<m42/\I40 k112 [iN n78,iN (wrap i64 (n44+1)),.slc 3 es110,.agg [AV.str s80,iN n81,iN n82,iN n83,iN n84,iN n85,.eptr [iN n86,iN n87,iN n88,iN n89,iN n90,iN n91,iN n92,iN n93,iN n94,.slc 3 es95,.slc 3 es96,.slc 3 es97,.slc 3 es98,.slc 3 es99] (0:Nat),iN n100,iN n101,.slc 3 es102,iN n103,iN n104,iN n105],.agg [AV.iface 1000000 (.slc 3 es106)]])/\(decide (n44<(↑es11.length:Int))=false->∃(J76:List AV->Prop),((decide (n69<0)=true->yk (3:Nat) [AV.agg [iN 212,iN n5,iN (-1:Int)]]/\((List.flatMap AV.cells es45).length=es45.length*Tryz.prog.cellsOf (55:Nat)/\(es45.length+1+(512:Nat))*121<=(1125899906842624:Nat)/\yn [iN 212,iN n5,iN (-1:Int)]=true/\yn (List.flatMap AV.cells es45)=true)/\yd [AV.undef]/\yd [iN n5]/\yd [AV.str s46,iN n47,iN n48,iN n49,iN n50,iN n51,.eptr [iN n52,iN n53,iN n54,iN n55,iN n56,iN n57,iN n58,iN n59,iN n60,.slc 3 es61,.slc 3 es62,.slc 3 es63,.slc 3 es64,.slc 3 es65] (0:Nat),iN n66,iN n67,.slc 3 es68,iN n69,iN n70,iN n71]/\yd [AV.iface 1000000 (.slc 3 es72)]/\∃es86,(es86.length=es45.length+1/\List.flatMap AV.cells es86=List.flatMap AV.cells es45++[iN 212,iN n5,iN (-1:Int)])/\J76 [AV.slc 3 es86])/\(decide (n69<0)=false->yd [AV.undef]/\yd [iN n5]/\yd [AV.str s46,iN n47,iN n48,iN n49,iN n50,iN n51,.eptr [iN n52,iN n53,iN n54,iN n55,iN n56,iN n57,iN n58,iN n59,iN n60,.slc 3 es61,.slc 3 es62,.slc 3 es63,.slc 3 es64,.slc 3 es65] (0:Nat),iN n66,iN n67,.slc 3 es68,iN n69,iN n70,iN n71]/\yd [AV.iface 1000000 (.slc 3 es72)]/\∃es84,(es84.length=es45.length/\List.flatMap AV.cells es84=List.flatMap AV.cells es45)/\J76 [AV.slc 3 es84]))/\∀(es78:List AV),J76 [AV.slc 3 es78]->∃(J80:List AV->Prop),((decide (n43>=0)=true->yk (3:Nat) [AV.agg [iN 213,iN n5,iN n43]]/\((List.flatMap AV.cells es78).length=es78.length*Tryz.prog.cellsOf (55:Nat)/\(es78.length+1+(512:Nat))*121<=(1125899906842624:Nat)/\yn [iN 213,iN n5,iN n43]=true/\yn (List.flatMap AV.cells es78)=true)/\yd [AV.undef]/\yd [iN n5]/\yd [AV.iface 1000000 (.slc 3 es72)]/\∃es89,(es89.length=es78.length+1/\List.flatMap AV.cells es89=List.flatMap AV.cells es78++[iN 213,iN n5,iN n43])/\J80 [AV.slc 3 es89,.agg [AV.str s46,iN n47,iN n48,iN n49,iN n50,iN n51,.eptr [iN n52,iN n53,iN n54,iN n55,iN n56,iN n57,iN n58,iN n59,iN n60,.slc 3 es61,.slc 3 es62,.slc 3 es63,.slc 3 es64,.slc 3 es65] (0:Nat),iN n66,iN n67,.slc 3 es68,iN n69,iN n70,iN n71]])/\(decide (n43>=0)=false->∃n84,Sp 62 [AV.ref 0 0] [[AV.str s46,iN n47,iN n48,iN n49,iN n50,iN n51,.eptr [iN n52,iN n53,iN n54,iN n55,iN n56,iN n57,iN n58,iN n59,iN n60,.slc 3 es61,.slc 3 es62,.slc 3 es63,.slc 3 es64,.slc 3 es65] (0:Nat),iN n66,iN n67,.slc 3 es68,iN n69,iN n70,iN n71]] (iN n84) [[AV.str s46,iN n47,iN n48,iN n49,iN n50,iN n51,.eptr [iN n52,iN n53,iN n54,iN n55,iN n56,iN n57,iN n58,iN n59,iN n60,.slc 3 es61,.slc 3 es62,.slc 3 es63,.slc 3 es64,.slc 3 es65] (0:Nat),iN n66,iN n67,.slc 3 es68,iN n69,iN n70,iN n71]]/\(decide (n84>n50)=true->yk (3:Nat) [AV.agg [iN 214,iN n5,iN (-1:Int)]]/\((List.flatMap AV.cells es78).length=es78.length*Tryz.prog.cellsOf (55:Nat)/\(es78.length+1+(512:Nat))*121<=(1125899906842624:Nat)/\yn [iN 214,iN n5,iN (-1:Int)]=true/\yn (List.flatMap AV.cells es78)=true)/\yd [AV.undef]/\yd [iN n5]/\yd [AV.iface 1000000 (.slc 3 es72)]/\∃es93,(es93.length=es78.length+1/\List.flatMap AV.cells es93=List.flatMap AV.cells es78++[iN 214,iN n5,iN (-1:Int)])/\J80 [AV.slc 3 es93,.agg [AV.str s46,iN n47,iN n48,iN n49,iN n50,iN n51,.eptr [iN n52,iN n53,iN n54,iN n55,iN n56,iN n57,iN n58,iN n59,iN n60,.slc 3 es61,.slc 3 es62,.slc 3 es63,.slc 3 es64,.slc 3 es65] (0:Nat),iN n66,iN n67,.slc 3 es68,iN n69,iN n70,iN n71]])/\(decide (n84>n50)=false->yd [AV.undef]/\yd [iN n5]/\yd [AV.iface 1000000 (.slc 3 es72)]/\∃es91,(es91.length=es78.length/\List.flatMap AV.cells es91=List.flatMap AV.cells es78)/\J80 [AV.slc 3 es91,.agg [AV.str s46,iN n47,iN n48,iN n49,iN n50,iN n51,.eptr [iN n52,iN n53,iN n54,iN n55,iN n56,iN n57,iN n58,iN n59,iN n60,.slc 3 es61,.slc 3 es62,.slc 3 es63,.slc 3 es64,.slc 3 es65] (0:Nat),iN n66,iN n67,.slc 3 es68,iN n69,iN n70,iN n71]])))/\∀(es82:List AV) (s83:ByteArray) (n84 n85 n86 n87 n88 n89 n90 n91 n92 n93 n94 n95 n96 n97:Int) (es98 es99 es100 es101 es102:List AV) (n103 n104:Int) (es105:List AV) (n106 n107 n108:Int),J80 [AV.slc 3 es82,.agg [AV.str s83,iN n84,iN n85,iN n86,iN n87,iN n88,.eptr [iN n89,iN n90,iN n91,iN n92,iN n93,iN n94,iN n95,iN n96,iN n97,.slc 3 es98,.slc 3 es99,.slc 3 es100,.slc 3 es101,.slc 3 es102] (0:Nat),iN n103,iN n104,.slc 3 es105,iN n106,iN n107,iN n108]]->∃n110,Sp 104 [AV.ref 0 0] [[AV.str s83,iN n84,iN n85,iN n86,iN n87,iN n88,.eptr [iN n89,iN n90,iN n91,iN n92,iN n93,iN n94,iN n95,iN n96,iN n97,.slc 3 es98,.slc 3 es99,.slc 3 es100,.slc 3 es101,.slc 3 es102] (0:Nat),iN n103,iN n104,.slc 3 es105,iN n106,iN n107,iN n108]] (iN n110) [[AV.str s83,iN n84,iN n85,iN n86,iN n87,iN n88,.eptr [iN n89,iN n90,iN n91,iN n92,iN n93,iN n94,iN n95,iN n96,iN n97,.slc 3 es98,.slc 3 es99,.slc 3 es100,.slc 3 es101,.slc 3 es102] (0:Nat),iN n103,iN n104,.slc 3 es105,iN n106,iN n107,iN n108]]/\yd [AV.undef]/\∃es113,(es113.length=es82.length/\List.flatMap AV.cells es113=List.flatMap AV.cells es82)/\∃k115,k115<m2/\I0 k115 [iN (wrap i64 (n3+n108)),iN (wrap i64 (n4+n110)),iN (wrap i64 (n5+1)),.slc 3 es113,.agg [AV.iface 1000000 (.slc 3 es72)]]))/\(decide (n5<(↑(List.map (fun x=>AV.slc 3 (List.map (AV.int i64) x)) plan).length:Int))=false->(0:Nat)+es6.length*Tryz.prog.cellsOf (55:Nat)<=(List.flatMap AV.cells es6).length/\Q (.tup [AV.slc 3 (chunks (Tryz.prog.cellsOf (55:Nat)) (yf Tryz.prog (55:Nat)) es6.length (List.drop (0:Nat) (List.flatMap AV.cells es6))),iN n3,iN n4]) [])
theorem s67 (d:TDepot) (plan:List (List Int)) (v O) (h:R67 d plan (fun r O'=>r=v/\O'=O)):Sp 67 [d.ptr,.slc 3 (List.map (fun x=>AV.slc 3 (List.map (AV.int .i64) x)) plan)] [] v O :=
 zX ⟨[],[(60,[.agg [.str default,iN 0,iN 0,iN 0,iN 0,iN 0,.eptr [iN 0,iN 0,iN 0,iN 0,iN 0,iN 0,iN 0,iN 0,iN 0,.slc 3 [],.slc 3 [],.slc 3 [],.slc 3 [],.slc 3 []] 0,iN 0,iN 0,.slc 3 [],iN 0,iN 0,iN 0]])],[62,104],[(103,⟨[0,1,2,3],[],[],[]⟩)],[]⟩ 4 ⟨[0,1,4,5,6,7,8,9,10,11,12,14,15,17,18,19,20,28,29,30,31,36,52,65,68,81,84,90],[⟨3,[(5,iN 0),(6,iN 0),(19,iN 0)],[],[(3000007,.agg [.iface 1000000 (.slc 3 [])])],[(4,0,55)],[],[]⟩,⟨9,[(12,iN 0),(30,iN 0)],[],[(10,.agg [.str default,iN 0,iN 0,iN 0,iN 0,iN 0,.eptr [iN 0,iN 0,iN 0,iN 0,iN 0,iN 0,iN 0,iN 0,iN 0,.slc 3 [],.slc 3 [],.slc 3 [],.slc 3 [],.slc 3 []] 0,iN 0,iN 0,.slc 3 [],iN 0,iN 0,iN 0]),(3000007,.agg [.iface 1000000 (.slc 3 [])])],[(4,0,55)],[],[]⟩],[⟨21,[(12,iN 0)],[],[(10,.agg [.str default,iN 0,iN 0,iN 0,iN 0,iN 0,.eptr [iN 0,iN 0,iN 0,iN 0,iN 0,iN 0,iN 0,iN 0,iN 0,.slc 3 [],.slc 3 [],.slc 3 [],.slc 3 [],.slc 3 []] 0,iN 0,iN 0,.slc 3 [],iN 0,iN 0,iN 0]),(3000007,.agg [.iface 1000000 (.slc 3 [])])],[(4,0,55)],[],[]⟩,⟨13,[],[],[],[(4,0,55)],[],[]⟩,⟨15,[],[],[],[(4,0,55)],[],[]⟩,⟨24,[],[],[],[(4,0,55)],[],[]⟩,⟨28,[],[],[(10,.agg [.str default,iN 0,iN 0,iN 0,iN 0,iN 0,.eptr [iN 0,iN 0,iN 0,iN 0,iN 0,iN 0,iN 0,iN 0,iN 0,.slc 3 [],.slc 3 [],.slc 3 [],.slc 3 [],.slc 3 []] 0,iN 0,iN 0,.slc 3 [],iN 0,iN 0,iN 0])],[(4,0,55)],[],[]⟩],[]⟩ [] (by exact⟨Tryz.call103,trivial⟩) Tryz.func67 Tryz.call67 rfl rfl rfl (by kernel_rfl) h
theorem zcu (d:TDepot) (hd:WI d) (plan:List (List Int)) (hp:Nh d plan):Sp 67 [d.ptr,.slc 3 (yL plan)] [] (OG d plan) []:=s67 d plan _ _ (by
 unfold R67 WQ;have hpl:=hp.len;have hpf:=hp.few;have hjl:=hd.jl;refine⟨fun m vs=>∃(k:Nat) (a:JAll),vs=[.int .i64 a.value,.int .i64 a.cost,.int .i64 k,.slc 3 (a.faults.map TRoFault.av),.agg [.iface 1000000 (.slc 3 (YC a.done))]]/\k<=plan.length/\m=plan.length-k/\Uu d k a (plan.drop k)=vI d plan/\a.faults.length<=100*k/\a.done.Nodup,⟨_,0,⟨[],0,0,[]⟩,rfl,by omega,rfl,rfl,Nat.zero_le _,List.nodup_nil⟩,?_⟩;rintro m n3 n4 n5 es6 es7 ⟨k,a,hk,hle,rfl,hj,hfl,hnd⟩;cases hk;simp only[List.length_map];refine⟨fun h3=>?_,fun h3=>?_⟩
 ·have h3:k<plan.length:=by have:=zt_ h3;omega
  have hmem:plan[k]∈plan:=List.getElem_mem h3;have hsm:=hp.small _ hmem;have hjb:=hp.jobs _ hmem;rw[MS h3] at hj;generalize hL:plan[k]=L at *;have hget:(yL plan)[((k:Nat):Int).toNat]? = some (.slc 3 (yg L)):=by rw[<- hL];exact vm h3
  refine⟨_,⟨by omega,by trivial,hget⟩,_,_,_,_,_,_,_,_,_,_,_,_,_,_,_,_,_,_,_,_,_,_,_,_,_,_,c60 d (k:Int) (by omega) (by omega),?_⟩;refine⟨fun m vs=>∃(j:Nat) (s:JSt),vs=[.int .i64 s.closed,.int .i64 j,.slc 3 (s.faults.map TRoFault.av),(s.tour.on d).av,.agg [.iface 1000000 (.slc 3 (YC s.done))]]/\j<=L.length/\m=L.length-j/\(L.drop j).foldl (PI d k) s=S9 d k a.faults a.done L/\s.faults.length<=100*k+2*j/\s.tour.last<d.RoTask.Jobs.length/\s.tour.stops.length<=j/\s.done.Nodup,
   ⟨_,⟨List.length_map ..,rfl⟩,_,0,⟨-1,a.faults,yF d k,a.done⟩,rfl,by omega,rfl,rfl,hfl,by show (-1:Int)<_;omega,Nat.le_refl _,hnd⟩,?_⟩
  intro m;intros;rename_i hJ;obtain ⟨j,s,hJ,hjle,rfl,hs,hsf,hsl,hss,hsd⟩:=hJ;cases hJ;rw[yS];refine⟨fun h4=>?_,fun h4=>?_⟩
  ·have h4:j<L.length:=by have:=zt_ h4;omega
   obtain ⟨hn0,hn1⟩:=hjb _ (List.getElem_mem h4);rw[Ix h4] at hs;have hgj:(yg L)[((j:Nat):Int).toNat]? = some (.int .i64 L[j]):=by
    rw[Int.toNat_natCast];unfold yg;rw[List.getElem?_map,List.getElem?_eq_getElem h4];rfl
   generalize hn:L[j]=n at *;have hjob:=(kV hn0 hn1).1;have hl1:(xX k s n).length<=1000:=by have:(xX k s n).length<=s.faults.length+1:=xY ..;omega
   refine⟨fun vs=>vs=Fa d (PI d k s n),⟨_,⟨by omega,by trivial,hgj⟩,fun vs=>vs=[.slc 3 ((xX k s n).map TRoFault.av)],⟨HH _,GK n,_,_,IB hsd n,fun g=>?_,fun g=>?_⟩,?_⟩,?_⟩
   ·refine⟨(xT s.faults (by omega) 210 k n).1,(xT s.faults (by omega) 210 k n).2,?_⟩
    (repeat (first | refine And.intro rfl ?_ | refine And.intro trivial ?_))
    refine⟨_,Uh s.faults 210 k n,?_⟩;show _=[AV.slc 3 ((xX k s n).map TRoFault.av)];unfold xX;rw[WS g]
   ·(repeat (first | refine And.intro rfl ?_ | refine And.intro trivial ?_))
    refine⟨_,⟨rfl,rfl⟩,?_⟩;show _=[AV.slc 3 ((xX k s n).map TRoFault.av)];unfold xX;rw[WR g]
   ·intro es82 hJ;cases hJ;refine⟨fun vs=>vs=[.slc 3 ((Yn d k s n).map TRoFault.av)],⟨_,_,_,_,_,_,_,_,_,⟨hn0,by trivial,hjob⟩,fun g=>?_,fun g=>?_⟩,?_⟩
    ·refine⟨(xT _ hl1 211 k n).1,(xT _ hl1 211 k n).2,?_⟩
     (repeat (first | refine And.intro rfl ?_ | refine And.intro trivial ?_))
     refine⟨_,Uh _ 211 k n,?_⟩;show _=[AV.slc 3 ((Yn d k s n).map TRoFault.av)];unfold Yn;rw[WS (b:=decide ((qk d.RoTask n).Height>s.tour.RoLorry.Lift)) g]
    ·(repeat (first | refine And.intro rfl ?_ | refine And.intro trivial ?_))
     refine⟨_,⟨rfl,rfl⟩,?_⟩;show _=[AV.slc 3 ((Yn d k s n).map TRoFault.av)];unfold Yn;rw[WR (b:=decide ((qk d.RoTask n).Height>s.tour.RoLorry.Lift)) g]
    ·intro es86 hJ;cases hJ;refine⟨HH _,GK n,_,IW hsd n,_,_,_,_,_,_,_,.undef,_,_,_,_,_,_,c61 d hd s.tour n hn0 hn1 hsl (by omega),fun f1=>⟨fun f2=>⟨fun f3=>?_,fun f3=>?_⟩,fun f2=>⟨fun f3=>?_,fun f3=>?_⟩⟩,fun f1=>⟨fun f3=>?_,fun f3=>?_⟩⟩
     ·(repeat (first | refine And.intro rfl ?_ | refine And.intro trivial ?_));exact⟨_,⟨rfl,rfl⟩,wZ (Ty f1 f2) (if_pos (zt_ f3))⟩
     ·(repeat (first | refine And.intro rfl ?_ | refine And.intro trivial ?_));exact⟨_,⟨rfl,rfl⟩,wZ (Ty f1 f2) (if_neg (zf_ f3))⟩
     ·(repeat (first | refine And.intro rfl ?_ | refine And.intro trivial ?_));exact⟨_,⟨rfl,rfl⟩,wZ (Tz f2) (if_pos (zt_ f3))⟩
     ·(repeat (first | refine And.intro rfl ?_ | refine And.intro trivial ?_));exact⟨_,⟨rfl,rfl⟩,wZ (Tz f2) (if_neg (zf_ f3))⟩
     ·(repeat (first | refine And.intro rfl ?_ | refine And.intro trivial ?_));exact⟨_,⟨rfl,rfl⟩,wZ (TA f1) (if_pos (zt_ f3))⟩
     ·(repeat (first | refine And.intro rfl ?_ | refine And.intro trivial ?_));exact⟨_,⟨rfl,rfl⟩,wZ (TA f1) (if_neg (zf_ f3))⟩
   ·intros;rename_i hJ;have hlen:=MU d k s n;obtain ⟨t1,t2⟩:=Nb (d:=d) (r:=s.tour) (c:=kT d s.tour s.closed n) hsl hn1;unfold Fa at hJ;cases hJ
    (repeat (first | refine And.intro rfl ?_ | refine And.intro trivial ?_))
    exact⟨_,⟨rfl,rfl⟩,_,(by omega:L.length-(j+1)<L.length-j),j+1,PI d k s n,by rw[yr (by omega)];rfl,by omega,rfl,hs,by show (Yn d k s n).length<=_;omega,t1,by show (Sk ..).stops.length<=_;omega,OU hsd n⟩
  ·have h4:j=L.length:=by have:=zf_ h4;omega
   subst h4;rw[List.drop_length] at hs;have hs:s=S9 d k a.faults a.done L:=hs;have hl2:(Yo k s).length<=1000:=by have:(Yo k s).length<=s.faults.length+1:=xY ..;omega
   refine⟨fun vs=>vs=[.slc 3 ((Yo k s).map TRoFault.av)],⟨fun g=>?_,fun g=>?_⟩,?_⟩
   ·refine⟨(xT s.faults (by omega) 212 k (-1)).1,(xT s.faults (by omega) 212 k (-1)).2,?_⟩
    (repeat (first | refine And.intro rfl ?_ | refine And.intro trivial ?_))
    refine⟨_,Uh s.faults 212 k (-1),?_⟩;show _=[AV.slc 3 ((Yo k s).map TRoFault.av)];unfold Yo;rw[WS (b:=decide (s.tour.room<0)) g]
   ·(repeat (first | refine And.intro rfl ?_ | refine And.intro trivial ?_))
    refine⟨_,⟨rfl,rfl⟩,?_⟩;show _=[AV.slc 3 ((Yo k s).map TRoFault.av)];unfold Yo;rw[WR (b:=decide (s.tour.room<0)) g]
   ·intro es78 hJ;cases hJ;refine⟨fun vs=>vs=[.slc 3 ((uD d k s).map TRoFault.av),(s.tour.on d).av],⟨fun g=>?_,fun g=>⟨_,c62 d s.tour hsl,fun f=>?_,fun f=>?_⟩⟩,?_⟩
    ·refine⟨(xT _ hl2 213 k s.closed).1,(xT _ hl2 213 k s.closed).2,?_⟩
     (repeat (first | refine And.intro rfl ?_ | refine And.intro trivial ?_))
     refine⟨_,Uh _ 213 k s.closed,?_⟩;show _=[AV.slc 3 ((uD d k s).map TRoFault.av),(s.tour.on d).av];unfold uD;rw[if_pos (zt_ g)];rfl
    ·refine⟨(xT _ hl2 214 k (-1)).1,(xT _ hl2 214 k (-1)).2,?_⟩
     (repeat (first | refine And.intro rfl ?_ | refine And.intro trivial ?_))
     refine⟨_,Uh _ 214 k (-1),?_⟩;show _=[AV.slc 3 ((uD d k s).map TRoFault.av),(s.tour.on d).av];unfold uD;rw[if_neg (zf_ g),WS (b:=decide (ug d s.tour>s.tour.RoLorry.Until)) f];rfl
    ·(repeat (first | refine And.intro rfl ?_ | refine And.intro trivial ?_))
     refine⟨_,⟨rfl,rfl⟩,?_⟩;show _=[AV.slc 3 ((uD d k s).map TRoFault.av),(s.tour.on d).av];unfold uD;rw[if_neg (zf_ g),WR (b:=decide (ug d s.tour>s.tour.RoLorry.Until)) f];rfl
    ·intros;rename_i hJ;cases hJ;refine⟨_,L5 d s.tour hsl,?_⟩
     (repeat (first | refine And.intro rfl ?_ | refine And.intro trivial ?_))
     have h6:(uD d k s).length<=s.faults.length+2:=by
      have h7:(Yo k s).length<=s.faults.length+1:=xY ..;unfold uD;split
      ·rw[List.length_append];show _+1<=_;omega
      ·exact Nat.le_trans (xY ..) (by omega)
     refine⟨_,⟨rfl,rfl⟩,_,(by omega:plan.length-(k+1)<plan.length-k),k+1,GD d k a s,by rw[yr (by omega)];rfl,by omega,rfl,by rw[hs];exact hj,by show (uD d k s).length<=_;omega,hsd⟩
 ·have h3:k=plan.length:=by have:=zf_ h3;omega
  subst h3;rw[List.drop_length] at hj;have hj:a=vI d plan:=hj;subst hj;have hfe:=GH (vI d plan).faults;rw[List.length_map] at hfe;refine⟨hfe.1,?_,by trivial⟩;unfold OG;rw[hfe.2])
theorem Sr.seven {d:TDepot} {plan:List (List Int)} (h:Sr d plan):Nh d plan:=⟨h.len,h.few,fun x hx=>Nat.le_succ_of_le (h.small x hx),h.jobs⟩
theorem c67 (d:TDepot) (hd:WI d) (plan:List (List Int)) (hp:Sr d plan):Sp 67 [d.ptr,.slc 3 (yL plan)] [] (OG d plan) []:=zcu d hd plan hp.seven
def YK (t:TRoTask) (plan:List (List Int)):Int × Int × Int :=
 if Xj t plan≠0 then (0,0,Xj t plan) else if (vI (ye t) plan).faults.length>0 then (0,0,9) else ((vI (ye t) plan).value,(vI (ye t) plan).cost,0)
theorem IU {t:TRoTask} {plan:List (List Int)} (h:Xj t plan=0):w7 t/\Sr (ye t) plan:=by
 unfold Xj at h;by_cases he:(qg t).2.2≠0
 ·rw[if_pos he] at h;exact absurd h he
 rw[if_neg he] at h;have hv:=xK (Decidable.not_not.1 he);by_cases h1:plan.length≠t.Lorries.length
 ·rw[if_pos h1] at h;exact absurd h (by decide)
 rw[if_neg h1] at h;by_cases h2:plan.any xB=true
 ·rw[if_pos h2] at h;exact absurd h (by decide)
 rw[if_neg h2] at h;by_cases h3:plan.flatten.any (y8 t 0)=true
 ·rw[if_pos h3] at h;exact absurd h (by decide)
 have h2:plan.any xB=false:=by simpa using h2
 have h3:plan.flatten.any (y8 t 0)=false:=by simpa using h3
 have hjl:=hv.jl;refine⟨hv,Nat.le_of_eq (Decidable.not_not.1 h1),hv.ll,fun x hx=>?_,fun x hx n hn=>?_⟩
 ·have h4:xB x=false:=by simpa using List.any_eq_false.1 h2 x hx
  unfold xB at h4;have:=zf_ h4;omega
 ·have h4:y8 t 0 n=false:=by simpa using List.any_eq_false.1 h3 n (List.mem_flatten.2 ⟨x,hx,hn⟩)
  unfold y8 at h4;rw[zw6 (by omega)] at h4;have:=y7.1 h4;show 0<=n/\n<(t.Jobs.length:Int);omega
def R20 (t:TRoTask) (plan:List (List Int)) (Q:yc):Prop :=
 (∃n1,Sp 66 [t.av,.slc 3 (List.map (fun x=>AV.slc 3 (List.map (AV.int i64) x)) plan)] [] (.tup [AV.nilp,iN n1]) []/\((n1 != 0)=true->Q (.tup [iN 0,iN 0,iN n1]) [])/\((n1 != 0)=false->∃es5 n6 n7,Sp 67 [AV.nilp,.slc 3 (List.map (fun x=>AV.slc 3 (List.map (AV.int i64) x)) plan)] [] (.tup [AV.slc 3 es5,iN n6,iN n7]) []/\(decide ((↑es5.length:Int)>(0:Int))=true->Q (.tup [iN 0,iN 0,iN 9]) [])/\(decide ((↑es5.length:Int)>(0:Int))=false->Q (.tup [iN n6,iN n7,iN 0]) [])))\/∃n1 n2 n3 n4 n5 n6 n7 n8 n9 es10 es11 es12 es13 es14 n15,Sp 66 [t.av,.slc 3 (List.map (fun x=>AV.slc 3 (List.map (AV.int i64) x)) plan)] [] (.tup [AV.eptr [iN n1,iN n2,iN n3,iN n4,iN n5,iN n6,iN n7,iN n8,iN n9,.slc 3 es10,.slc 3 es11,.slc 3 es12,.slc 3 es13,.slc 3 es14] (0:Nat),iN n15]) []/\((n15 != 0)=true->Q (.tup [iN 0,iN 0,iN n15]) [])/\((n15 != 0)=false->∃es19 n20 n21,Sp 67 [AV.eptr [iN n1,iN n2,iN n3,iN n4,iN n5,iN n6,iN n7,iN n8,iN n9,.slc 3 es10,.slc 3 es11,.slc 3 es12,.slc 3 es13,.slc 3 es14] (0:Nat),.slc 3 (List.map (fun x=>AV.slc 3 (List.map (AV.int i64) x)) plan)] [] (.tup [AV.slc 3 es19,iN n20,iN n21]) []/\(decide ((↑es19.length:Int)>(0:Int))=true->Q (.tup [iN 0,iN 0,iN 9]) [])/\(decide ((↑es19.length:Int)>(0:Int))=false->Q (.tup [iN n20,iN n21,iN 0]) []))
theorem s20 (t:TRoTask) (plan:List (List Int)) (v O) (h:R20 t plan (fun r O'=>r=v/\O'=O)):Sp 20 [t.av,.slc 3 (List.map (fun x=>.slc 3 (List.map (AV.int .i64) x)) plan)] [] v O :=
 zX ⟨[],[(66,[.tup [.nilp,iN 0],.tup [.eptr [iN 0,iN 0,iN 0,iN 0,iN 0,iN 0,iN 0,iN 0,iN 0,.slc 3 [],.slc 3 [],.slc 3 [],.slc 3 [],.slc 3 []] 0,iN 0]])],[],[],[]⟩ 0 ⟨[0,1,2,4,5,6,7,8,16,27],[],[],[]⟩ [] (by exact trivial) Tryz.func20 Tryz.call20 rfl rfl rfl (by kernel_rfl) h
theorem c20 (t:TRoTask) (ht:jw t) (plan:List (List Int)):Sp 20 [t.av,.slc 3 (yL plan)] [] (.tup [.int .i64 (YK t plan).1,.int .i64 (YK t plan).2.1,.int .i64 (YK t plan).2.2]) []:=s20 t plan _ _ (by
 unfold R20;have hb:=c66 t ht plan;unfold vO at hb;by_cases he:Xj t plan≠0
 ·rw[if_pos he] at hb;refine .inl ⟨_,hb,fun _=>⟨by unfold YK;rw[if_pos he],by trivial⟩,fun h=>absurd h (by simpa using he)⟩
 rw[if_neg he] at hb;obtain ⟨hv,hp⟩:=IU (Decidable.not_not.1 he);refine .inr ⟨_,_,_,_,_,_,_,_,_,_,_,_,_,_,_,hb,fun h=>by simp at h,fun _=>⟨_,_,_,c67 (ye t) (NF hv) plan hp,fun g=>⟨?_,by trivial⟩,fun g=>⟨?_,by trivial⟩⟩⟩
 ·have g:=zt_ g;rw[List.length_map] at g;unfold YK;rw[if_neg he,if_pos (by omega)]
 ·have g:=zf_ g;rw[List.length_map] at g;unfold YK;rw[if_neg he,if_neg (by omega)])
end Go.Proofs.YtkojpnkknehhmaaGreatDoor

/- Contracts: a job more in a plan. Contract: a job more in a plan. -/
import Derived.Test.YtdeeekgohhkdbaaGreatDoorUh
import Derived.Test.YtdeeekgohhkdbaaGreatDoorSj
namespace Go.Proofs.YtdeeekgohhkdbaaGreatDoor
open Go.RowKit
abbrev InS:=Option (List (List Int)) × Int
def kC (d:TDepot) (plan:List (List Int)) (job:Int) (i:Nat) (s:InS) (k:Nat):InS :=
 if (yD d (yL plan i k job)).faults.length=0/\(s.1=none\/(yD d (yL plan i k job)).cost<s.2) then (some (yL plan i k job),(yD d (yL plan i k job)).cost) else s
def xY (d:TDepot) (plan:List (List Int)) (job:Int) (i:Nat) (s:InS) (k n:Nat):InS:=(List.range' k n).foldl (kC d plan job i) s
def xX (d:TDepot) (plan:List (List Int)) (job:Int) (s:InS) (i n:Nat):InS:=(List.range' i n).foldl (fun s i=>xY d plan job i s 0 ((plan.getD i []).length+1)) s
def yY (t:TRoTask) (plan:List (List Int)) (job:Int):List (List Int) × Int :=
 if jv t plan≠0 then ([],jv t plan) else if (yD (yg t) plan).faults.length>0 then ([],9) else if qu job 0 (IntKind.i64.wrap ((t.Jobs.length:Int)-1))=true then ([],4) else if job∈plan.flatten then ([],5) else
  match (xX (yg t) plan job (none,0) 0 plan.length).1 with
  | none=>([],9)
  | some p=>(p,0)
def wL:Option (List (List Int))->AV
 | none=>.slc 0 []
 | some p=>.slc 3 (yz p)
def uU (s:InS):Prop:=∀ p,s.1=some p->0<p.length
theorem xk {L:List (List Int)} {i k:Nat} {j:Int}:(yL L i k j).length=L.length:=by simp [yL]
theorem q7 {d:TDepot} {plan:List (List Int)} {job:Int} {i k:Nat} {s:InS} (h:(yD d (yL plan i k job)).faults.length=0) (h2:s.1=none\/(yD d (yL plan i k job)).cost<s.2) :
  kC d plan job i s k=(some (yL plan i k job),(yD d (yL plan i k job)).cost):=if_pos ⟨h,h2⟩
theorem qt {d:TDepot} {plan:List (List Int)} {job:Int} {i k:Nat} {s:InS} (h:(yD d (yL plan i k job)).faults.length=0->¬ (s.1=none\/(yD d (yL plan i k job)).cost<s.2)):kC d plan job i s k=s:=if_neg fun hh=>h hh.1 hh.2
theorem PJ {d:TDepot} {plan:List (List Int)} {job:Int} {i k:Nat} {s:InS} (h:uU s) (hi:i<plan.length):uU (kC d plan job i s k):=by
 unfold kC
 split
 ·intro p hp; cases hp; rw [xk]; omega
 ·exact h
theorem UN {d:TDepot} {plan:List (List Int)} {job:Int} {i k n:Nat} {s:InS}:xY d plan job i s k (n+1)=xY d plan job i (kC d plan job i s k) (k+1) n:=rfl
theorem UM {d:TDepot} {plan:List (List Int)} {job:Int} {i n:Nat} {s:InS}:xX d plan job s i (n+1)=xX d plan job (xY d plan job i s 0 ((plan.getD i []).length+1)) (i+1) n:=rfl
theorem LU {d:TDepot} {plan:List (List Int)} (hp:WT d plan) {job:Int} (hj:0<=job/\job<d.RoTask.Jobs.length) {i k:Nat} (hi:i<plan.length) (_hk:k<=(plan.getD i []).length):Tk d (yL plan i k job):=by
 have hm:plan.getD i []∈plan:=by rw [List.getD_eq_getElem?_getD,List.getElem?_eq_getElem hi]; exact List.getElem_mem hi
 have h6:=hp.small _ hm
 have hmem:∀ x∈yL plan i k job,x∈plan\/x=(plan.getD i []).take k++job::(plan.getD i []).drop k:=fun x hx=>List.mem_or_eq_of_mem_set hx
 refine ⟨by rw [xk]; exact hp.len,hp.few,fun x hx=>?_,fun x hx n hn=>?_⟩
 ·rcases hmem x hx with h | rfl
  ·have:=hp.small x h; omega
  ·simp only [List.length_append,List.length_take,List.length_cons,List.length_drop]; omega
 ·rcases hmem x hx with h | rfl
  ·exact hp.jobs x h n hn
  ·rcases List.mem_append.1 hn with h | h
   ·exact hp.jobs _ hm n (List.mem_of_mem_take h)
   ·rcases List.mem_cons.1 h with rfl | h
    ·exact hj
    ·exact hp.jobs _ hm n (List.mem_of_mem_drop h)
def HM (s:List Int) (x:Int) (_S:SpecF) (_Fr:FreshF) (_Sq:SeqF) (Q:yj):Prop :=
 ∃ (I0:Nat->List AV->Prop),(∃ m2,I0 m2 [iN 0])/\∀ (m2:Nat) (n3:Int),I0 m2 [iN n3]->(decide (n3<(↑(List.map (AV.int IntKind.i64) s).length:Int))=true->∃ n7,((0:Int)<=n3/\(1:Nat)=(1:Nat)/\(List.map (AV.int IntKind.i64) s)[n3.toNat]?=some (iN n7))/\((x == n7)=true->Q (iN n3) [])/\((x == n7)=false->∃ k11,k11<m2/\I0 k11 [iN (IntKind.i64.wrap (n3+1))]))/\(decide (n3<(↑(List.map (AV.int IntKind.i64) s).length:Int))=false->Q (iN (-1:Int)) [])
theorem E2 (s:List Int) (x:Int) (v:AV) (O:List (List AV)) (h:HM s x Sp Fo So (fun r O'=>r=v/\O'=O)):Sp 122 [.slc 3 (List.map (AV.int .i64) s),iN x] [] v O :=
 ye (w:=⟨[],[],[],[],[]⟩) (k:=0) (keep:=⟨[0,1,4,5,7,8,9,16],[⟨2,[(8,iN 0)],[],[],[],[],[]⟩],[],[]⟩) (boxes:=[]) mixed (by exact trivial) Tryz.func122 Tryz.call122 rfl rfl rfl (Nat.le_of_ble_eq_true rfl) (by kernel_rfl) h
theorem F4 (s:List Int) (x:Int) (hl:s.length<=4611686018427387904):Sp 122 [.slc 3 (ym s),.int .i64 x] [] (.int .i64 (yV (fun y=>x == y) 0 s)) []:=E2 s x _ _ (by
 unfold HM
 refine ⟨fun m vs=>∃ k:Nat,vs=[.int .i64 k]/\k<=s.length/\m=s.length-k/\yV (fun y=>x == y) k (s.drop k)=yV (fun y=>x == y) 0 s,⟨_,0,rfl,by omega,rfl,rfl⟩,?_⟩
 rintro m n ⟨k,hk,hle,rfl,hn⟩
 cases hk
 simp only [List.length_map]
 refine ⟨fun h3=>?_,fun h3=>⟨?_,by trivial⟩⟩
 ·have h3:k<s.length:=by have:=zt_ h3; omega
  have hat:=jh (f:=fun y=>x == y) (List.getElem?_eq_getElem h3)
  have hg:(List.map (AV.int .i64) s)[((k:Nat):Int).toNat]?=some (.int .i64 s[k]):=by rw [Int.toNat_natCast,List.getElem?_map,List.getElem?_eq_getElem h3]; rfl
  refine ⟨_,⟨by omega,by trivial,hg⟩,fun h4=>⟨?_,by trivial⟩,fun h4=>⟨_,?_,k+1,?_,by omega,rfl,?_⟩⟩
  ·rw [<- hn,hat,h4]; rfl
  ·omega
  ·rw [yq (by omega)]
  ·rw [<- hn,hat,h4]; rfl
 ·have:k=s.length:=by have:=zf_ h3; omega
  rw [<- hn,this,List.drop_length]; rfl)
def R95 (s:List Int) (x:Int) (S:SpecF) (_Fr:FreshF) (_Sq:SeqF) (Q:yj):Prop :=
 ∃ n0,S 122 [AV.slc 3 (List.map (AV.int IntKind.i64) s),iN x] [] (iN n0) []/\Q (.bool (decide (n0>=0))) []
theorem s95 (s:List Int) (x:Int) (v:AV) (O:List (List AV)) (h:R95 s x Sp Fo So (fun r O'=>r=v/\O'=O)):Sp 95 [.slc 3 (List.map (AV.int .i64) s),iN x] [] v O :=
 ye (w:=⟨[],[],[],[],[]⟩) (k:=0) (keep:=⟨[0,1,4],[],[],[]⟩) (boxes:=[]) mixed (by exact trivial) Tryz.func95 Tryz.call95 rfl rfl rfl (Nat.le_of_ble_eq_true rfl) (by kernel_rfl) h
theorem c95 (s:List Int) (x:Int) (hl:s.length<=4611686018427387904):Sp 95 [.slc 3 (ym s),.int .i64 x] [] (.bool (decide (x∈s))) []:=s95 s x _ _ (by
 refine ⟨_,F4 s x hl,?_,by trivial⟩
 rw [qW]
 congr 1
 rw [Bool.eq_iff_iff]
 simp)
theorem YD {s:InS} {n k n' k':Int} (h:[AV.slc 0 [],.int .i64 n,.int .i64 k]=[wL s.1,.int .i64 n',.int .i64 k']):s.1=none/\n=n'/\k=k':=by
 simp only [List.cons.injEq,and_true,AV.int.injEq,true_and] at h
 refine ⟨?_,h.2.1,h.2.2⟩
 cases hs:s.1 with
 | none=>rfl
 | some p=>rw [hs] at h; have:=h.1; simp [wL] at this
theorem YE {s:InS} {v:AV} {r:List AV} {n k n' k':Int} (h:[AV.slc 3 (v::r),.int .i64 n,.int .i64 k]=[wL s.1,.int .i64 n',.int .i64 k']):(∃ p,s.1=some p/\yz p=v::r)/\n=n'/\k=k':=by
 simp only [List.cons.injEq,and_true,AV.int.injEq,true_and] at h
 refine ⟨?_,h.2.1,h.2.2⟩
 cases hs:s.1 with
 | none=>rw [hs] at h; have:=h.1; simp [wL] at this
 | some p=>rw [hs] at h; have:=h.1; simp only [wL,AV.slc.injEq,true_and] at this; exact ⟨p,rfl,this.symm⟩
theorem ua {P:List (List Int)} (h:0<P.length):∃ v r,yz P=v::r:=by
 cases P with
 | nil=>simp at h
 | cons x r=>exact ⟨_,_,rfl⟩
def HC (d:TDepot) (plan:List (List Int)) (job:Int) (m:Nat) (vs:List AV):Prop :=
 ∃ (i:Nat) (s:InS),vs=[wL s.1,.int .i64 s.2,.int .i64 i]/\i<=plan.length/\m=plan.length-i/\xX d plan job s i (plan.length-i)=xX d plan job (none,0) 0 plan.length/\uU s
def ME (d:TDepot) (plan:List (List Int)) (job:Int) (i:Nat) (R:InS) (m:Nat) (vs:List AV):Prop :=
 ∃ (k:Nat) (s:InS),vs=[wL s.1,.int .i64 s.2,.int .i64 k]/\k<=(plan.getD i []).length+1/\m=(plan.getD i []).length+1-k/\xY d plan job i s k ((plan.getD i []).length+1-k)=R/\uU s
theorem jR {d:TDepot} {plan:List (List Int)} {job:Int} {i k:Nat} {R s:InS} (hi:i<plan.length) (hk:k<(plan.getD i []).length+1) (hl:(plan.getD i []).length<=1000) (hr:xY d plan job i s k ((plan.getD i []).length+1-k)=R) (hs:uU s) {v:AV} {n:Int}
  (hv:v=wL (kC d plan job i s k).1) (hn:n=(kC d plan job i s k).2):∃ k',k'<(plan.getD i []).length+1-k/\ME d plan job i R k' [v,.int .i64 n,.int .i64 (IntKind.i64.wrap ((k:Int)+1))]:=by
 refine ⟨_,(by omega:(plan.getD i []).length+1-(k+1)<(plan.getD i []).length+1-k),k+1,kC d plan job i s k,by rw [hv,hn,yq (by omega)],by omega,rfl,?_,PJ hs hi⟩
 rw [<- hr,show (plan.getD i []).length+1-k=((plan.getD i []).length+1-(k+1))+1 by omega,UN]
theorem WI {d:TDepot} {plan:List (List Int)} {job:Int} {i:Nat} {s s':InS} (hi:i<plan.length) (hl:plan.length<=1000) (hr:xX d plan job s i (plan.length-i)=xX d plan job (none,0) 0 plan.length) (hs:uU s')
  (hs':xY d plan job i s 0 ((plan.getD i []).length+1)=s') {v:AV} {n:Int} (hv:v=wL s'.1) (hn:n=s'.2):∃ k',k'<plan.length-i/\HC d plan job k' [v,.int .i64 n,.int .i64 (IntKind.i64.wrap ((i:Int)+1))]:=by
 refine ⟨_,(by omega:plan.length-(i+1)<plan.length-i),i+1,s',by rw [hv,hn,yq (by omega)],by omega,rfl,?_,hs⟩
 rw [<- hr,show plan.length-i=(plan.length-(i+1))+1 by omega,UM,hs']
theorem vq {P:List (List Int)} {i:Nat} (h:i<P.length):P.getD i []∈P/\P[i]?=some (P.getD i []):=by
 rw [List.getD_eq_getElem?_getD,List.getElem?_eq_getElem h]; exact ⟨List.getElem_mem h,rfl⟩
abbrev MJ (t:TRoTask) (plan:List (List Int)) (job:Int) (S:SpecF) (p0_:Nat->List AV->Prop) (p1_:List AV) (p2_ p3_ p4_ p5_ p6_ p7_ p8_ p9_ p10_ p11_:Int) (p12_ p13_ p14_ p15_ p16_:List AV) (p17_:Nat) (p18_:Nat->List AV->Prop):Prop :=
 ∀ (m48:Nat),(∀ (n50 n51:Int),p0_ m48 [AV.slc 0 [],iN n50,iN n51]->(decide (n51<IntKind.i64.wrap ((↑p1_.length:Int)+(1:Int)))=true->∃ L55,(.slc 3 (List.map (fun x=>AV.slc 3 (List.map (AV.int IntKind.i64) x)) plan)=AV.slc 3 (List.map (fun x=>AV.slc 3 (List.map (AV.int IntKind.i64) x)) L55)/\(0:Int)<=p2_/\p2_<(↑L55.length:Int)/\(0:Int)<=n51/\n51<=(↑(L55.getD p2_.toNat []).length:Int)/\L55.length<=1000/\∀ (x63:List Int),x63∈L55->x63.length<=1000)/\∃ es57 n58 n59,S 51 [AV.eptr [iN p3_,iN p4_,iN p5_,iN p6_,iN p7_,iN p8_,iN p9_,iN p10_,iN p11_,.slc 3 p12_,.slc 3 p13_,.slc 3 p14_,.slc 3 p15_,.slc 3 p16_] (0:Nat),.slc 3 (List.map (fun x=>AV.slc 3 (List.map (AV.int IntKind.i64) x)) (yL L55 p2_.toNat n51.toNat job))] [] (.tup [AV.slc 3 es57,iN n58,iN n59]) []/\(((↑es57.length:Int) == (0:Int))=true->(.slc 3 (List.map (fun x=>AV.slc 3 (List.map (AV.int IntKind.i64) x)) (yL L55 p2_.toNat n51.toNat job))=AV.slc 0 []/\t.cs=t.cs/\∃ k66,k66<m48/\p0_ k66 [AV.slc 0 [],iN n59,iN (IntKind.i64.wrap (n51+1))])\/∃ v64:AV,∃ r65,.slc 3 (List.map (fun x=>AV.slc 3 (List.map (AV.int IntKind.i64) x)) (yL L55 p2_.toNat n51.toNat job))=AV.slc 3 (v64::r65)/\t.cs=t.cs/\∃ k68,k68<m48/\p0_ k68 [AV.slc 3 (v64::r65),iN n59,iN (IntKind.i64.wrap (n51+1))])/\(((↑es57.length:Int) == (0:Int))=false->(.slc 0 []=AV.slc 0 []/\t.cs=t.cs/\∃ k66,k66<m48/\p0_ k66 [AV.slc 0 [],iN n50,iN (IntKind.i64.wrap (n51+1))])\/∃ v64:AV,∃ r65,.slc 0 []=AV.slc 3 (v64::r65)/\t.cs=t.cs/\∃ k68,k68<m48/\p0_ k68 [AV.slc 3 (v64::r65),iN n50,iN (IntKind.i64.wrap (n51+1))]))/\(decide (n51<IntKind.i64.wrap ((↑p1_.length:Int)+(1:Int)))=false->t.cs=t.cs/\∃ k56,k56<p17_/\p18_ k56 [AV.slc 0 [],iN n50,iN (IntKind.i64.wrap (p2_+1))]))/\∀ (v50:AV) (r51:List AV) (n52 n53:Int),p0_ m48 [AV.slc 3 (v50::r51),iN n52,iN n53]->(decide (n53<IntKind.i64.wrap ((↑p1_.length:Int)+(1:Int)))=true->∃ L57,(.slc 3 (List.map (fun x=>AV.slc 3 (List.map (AV.int IntKind.i64) x)) plan)=AV.slc 3 (List.map (fun x=>AV.slc 3 (List.map (AV.int IntKind.i64) x)) L57)/\(0:Int)<=p2_/\p2_<(↑L57.length:Int)/\(0:Int)<=n53/\n53<=(↑(L57.getD p2_.toNat []).length:Int)/\L57.length<=1000/\∀ (x65:List Int),x65∈L57->x65.length<=1000)/\∃ es59 n60 n61,S 51 [AV.eptr [iN p3_,iN p4_,iN p5_,iN p6_,iN p7_,iN p8_,iN p9_,iN p10_,iN p11_,.slc 3 p12_,.slc 3 p13_,.slc 3 p14_,.slc 3 p15_,.slc 3 p16_] (0:Nat),.slc 3 (List.map (fun x=>AV.slc 3 (List.map (AV.int IntKind.i64) x)) (yL L57 p2_.toNat n53.toNat job))] [] (.tup [AV.slc 3 es59,iN n60,iN n61]) []/\(((↑es59.length:Int) == (0:Int))=true->∀ (b65:Bool),(v50::r51≠[]->b65=!true)->(b65=true->(.slc 3 (List.map (fun x=>AV.slc 3 (List.map (AV.int IntKind.i64) x)) (yL L57 p2_.toNat n53.toNat job))=AV.slc 0 []/\t.cs=t.cs/\∃ k72,k72<m48/\p0_ k72 [AV.slc 0 [],iN n61,iN (IntKind.i64.wrap (n53+1))])\/∃ v70:AV,∃ r71,.slc 3 (List.map (fun x=>AV.slc 3 (List.map (AV.int IntKind.i64) x)) (yL L57 p2_.toNat n53.toNat job))=AV.slc 3 (v70::r71)/\t.cs=t.cs/\∃ k74,k74<m48/\p0_ k74 [AV.slc 3 (v70::r71),iN n61,iN (IntKind.i64.wrap (n53+1))])/\(b65=false->(decide (n61<n52)=true->(.slc 3 (List.map (fun x=>AV.slc 3 (List.map (AV.int IntKind.i64) x)) (yL L57 p2_.toNat n53.toNat job))=AV.slc 0 []/\t.cs=t.cs/\∃ k74,k74<m48/\p0_ k74 [AV.slc 0 [],iN n61,iN (IntKind.i64.wrap (n53+1))])\/∃ v72:AV,∃ r73,.slc 3 (List.map (fun x=>AV.slc 3 (List.map (AV.int IntKind.i64) x)) (yL L57 p2_.toNat n53.toNat job))=AV.slc 3 (v72::r73)/\t.cs=t.cs/\∃ k76,k76<m48/\p0_ k76 [AV.slc 3 (v72::r73),iN n61,iN (IntKind.i64.wrap (n53+1))])/\(decide (n61<n52)=false->(.slc 3 (v50::r51)=AV.slc 0 []/\t.cs=t.cs/\∃ k74,k74<m48/\p0_ k74 [AV.slc 0 [],iN n52,iN (IntKind.i64.wrap (n53+1))])\/∃ v72:AV,∃ r73,.slc 3 (v50::r51)=AV.slc 3 (v72::r73)/\t.cs=t.cs/\∃ k76,k76<m48/\p0_ k76 [AV.slc 3 (v72::r73),iN n52,iN (IntKind.i64.wrap (n53+1))])))/\(((↑es59.length:Int) == (0:Int))=false->(.slc 3 (v50::r51)=AV.slc 0 []/\t.cs=t.cs/\∃ k68,k68<m48/\p0_ k68 [AV.slc 0 [],iN n52,iN (IntKind.i64.wrap (n53+1))])\/∃ v66:AV,∃ r67,.slc 3 (v50::r51)=AV.slc 3 (v66::r67)/\t.cs=t.cs/\∃ k70,k70<m48/\p0_ k70 [AV.slc 3 (v66::r67),iN n52,iN (IntKind.i64.wrap (n53+1))]))/\(decide (n53<IntKind.i64.wrap ((↑p1_.length:Int)+(1:Int)))=false->t.cs=t.cs/\∃ k58,k58<p17_/\p18_ k58 [AV.slc 3 (v50::r51),iN n52,iN (IntKind.i64.wrap (p2_+1))])
abbrev MK (t:TRoTask) (plan:List (List Int)) (job:Int) (S:SpecF) (p0_:Nat->List AV->Prop) (p1_:List AV) (p2_:Int) (p3_:Nat) (p4_:Nat->List AV->Prop):Prop :=
 ∀ (m34:Nat),(∀ (n36 n37:Int),p0_ m34 [AV.slc 0 [],iN n36,iN n37]->(decide (n37<IntKind.i64.wrap ((↑p1_.length:Int)+(1:Int)))=true->∃ L41,(.slc 3 (List.map (fun x=>AV.slc 3 (List.map (AV.int IntKind.i64) x)) plan)=AV.slc 3 (List.map (fun x=>AV.slc 3 (List.map (AV.int IntKind.i64) x)) L41)/\(0:Int)<=p2_/\p2_<(↑L41.length:Int)/\(0:Int)<=n37/\n37<=(↑(L41.getD p2_.toNat []).length:Int)/\L41.length<=1000/\∀ (x49:List Int),x49∈L41->x49.length<=1000)/\∃ es43 n44 n45,S 51 [AV.nilp,.slc 3 (List.map (fun x=>AV.slc 3 (List.map (AV.int IntKind.i64) x)) (yL L41 p2_.toNat n37.toNat job))] [] (.tup [AV.slc 3 es43,iN n44,iN n45]) []/\(((↑es43.length:Int) == (0:Int))=true->(.slc 3 (List.map (fun x=>AV.slc 3 (List.map (AV.int IntKind.i64) x)) (yL L41 p2_.toNat n37.toNat job))=AV.slc 0 []/\t.cs=t.cs/\∃ k52,k52<m34/\p0_ k52 [AV.slc 0 [],iN n45,iN (IntKind.i64.wrap (n37+1))])\/∃ v50:AV,∃ r51,.slc 3 (List.map (fun x=>AV.slc 3 (List.map (AV.int IntKind.i64) x)) (yL L41 p2_.toNat n37.toNat job))=AV.slc 3 (v50::r51)/\t.cs=t.cs/\∃ k54,k54<m34/\p0_ k54 [AV.slc 3 (v50::r51),iN n45,iN (IntKind.i64.wrap (n37+1))])/\(((↑es43.length:Int) == (0:Int))=false->(.slc 0 []=AV.slc 0 []/\t.cs=t.cs/\∃ k52,k52<m34/\p0_ k52 [AV.slc 0 [],iN n36,iN (IntKind.i64.wrap (n37+1))])\/∃ v50:AV,∃ r51,.slc 0 []=AV.slc 3 (v50::r51)/\t.cs=t.cs/\∃ k54,k54<m34/\p0_ k54 [AV.slc 3 (v50::r51),iN n36,iN (IntKind.i64.wrap (n37+1))]))/\(decide (n37<IntKind.i64.wrap ((↑p1_.length:Int)+(1:Int)))=false->t.cs=t.cs/\∃ k42,k42<p3_/\p4_ k42 [AV.slc 0 [],iN n36,iN (IntKind.i64.wrap (p2_+1))]))/\∀ (v36:AV) (r37:List AV) (n38 n39:Int),p0_ m34 [AV.slc 3 (v36::r37),iN n38,iN n39]->(decide (n39<IntKind.i64.wrap ((↑p1_.length:Int)+(1:Int)))=true->∃ L43,(.slc 3 (List.map (fun x=>AV.slc 3 (List.map (AV.int IntKind.i64) x)) plan)=AV.slc 3 (List.map (fun x=>AV.slc 3 (List.map (AV.int IntKind.i64) x)) L43)/\(0:Int)<=p2_/\p2_<(↑L43.length:Int)/\(0:Int)<=n39/\n39<=(↑(L43.getD p2_.toNat []).length:Int)/\L43.length<=1000/\∀ (x51:List Int),x51∈L43->x51.length<=1000)/\∃ es45 n46 n47,S 51 [AV.nilp,.slc 3 (List.map (fun x=>AV.slc 3 (List.map (AV.int IntKind.i64) x)) (yL L43 p2_.toNat n39.toNat job))] [] (.tup [AV.slc 3 es45,iN n46,iN n47]) []/\(((↑es45.length:Int) == (0:Int))=true->∀ (b51:Bool),(v36::r37≠[]->b51=!true)->(b51=true->(.slc 3 (List.map (fun x=>AV.slc 3 (List.map (AV.int IntKind.i64) x)) (yL L43 p2_.toNat n39.toNat job))=AV.slc 0 []/\t.cs=t.cs/\∃ k58,k58<m34/\p0_ k58 [AV.slc 0 [],iN n47,iN (IntKind.i64.wrap (n39+1))])\/∃ v56:AV,∃ r57,.slc 3 (List.map (fun x=>AV.slc 3 (List.map (AV.int IntKind.i64) x)) (yL L43 p2_.toNat n39.toNat job))=AV.slc 3 (v56::r57)/\t.cs=t.cs/\∃ k60,k60<m34/\p0_ k60 [AV.slc 3 (v56::r57),iN n47,iN (IntKind.i64.wrap (n39+1))])/\(b51=false->(decide (n47<n38)=true->(.slc 3 (List.map (fun x=>AV.slc 3 (List.map (AV.int IntKind.i64) x)) (yL L43 p2_.toNat n39.toNat job))=AV.slc 0 []/\t.cs=t.cs/\∃ k60,k60<m34/\p0_ k60 [AV.slc 0 [],iN n47,iN (IntKind.i64.wrap (n39+1))])\/∃ v58:AV,∃ r59,.slc 3 (List.map (fun x=>AV.slc 3 (List.map (AV.int IntKind.i64) x)) (yL L43 p2_.toNat n39.toNat job))=AV.slc 3 (v58::r59)/\t.cs=t.cs/\∃ k62,k62<m34/\p0_ k62 [AV.slc 3 (v58::r59),iN n47,iN (IntKind.i64.wrap (n39+1))])/\(decide (n47<n38)=false->(.slc 3 (v36::r37)=AV.slc 0 []/\t.cs=t.cs/\∃ k60,k60<m34/\p0_ k60 [AV.slc 0 [],iN n38,iN (IntKind.i64.wrap (n39+1))])\/∃ v58:AV,∃ r59,.slc 3 (v36::r37)=AV.slc 3 (v58::r59)/\t.cs=t.cs/\∃ k62,k62<m34/\p0_ k62 [AV.slc 3 (v58::r59),iN n38,iN (IntKind.i64.wrap (n39+1))])))/\(((↑es45.length:Int) == (0:Int))=false->(.slc 3 (v36::r37)=AV.slc 0 []/\t.cs=t.cs/\∃ k54,k54<m34/\p0_ k54 [AV.slc 0 [],iN n38,iN (IntKind.i64.wrap (n39+1))])\/∃ v52:AV,∃ r53,.slc 3 (v36::r37)=AV.slc 3 (v52::r53)/\t.cs=t.cs/\∃ k56,k56<m34/\p0_ k56 [AV.slc 3 (v52::r53),iN n38,iN (IntKind.i64.wrap (n39+1))]))/\(decide (n39<IntKind.i64.wrap ((↑p1_.length:Int)+(1:Int)))=false->t.cs=t.cs/\∃ k44,k44<p3_/\p4_ k44 [AV.slc 3 (v36::r37),iN n38,iN (IntKind.i64.wrap (p2_+1))])
def R39 (t:TRoTask) (plan:List (List Int)) (job:Int) (S:SpecF) (_Fr:FreshF) (_Sq:SeqF) (Q:yj):Prop :=
 (∃ n1,S 50 [t.av,.slc 3 (List.map (fun x=>AV.slc 3 (List.map (AV.int IntKind.i64) x)) plan)] [] (.tup [AV.nilp,iN n1]) []/\((n1 != 0)=true->Q (.tup [AV.slc 3 [],iN n1]) [])/\((n1 != 0)=false->∃ es5 n6 n7,S 51 [AV.nilp,.slc 3 (List.map (fun x=>AV.slc 3 (List.map (AV.int IntKind.i64) x)) plan)] [] (.tup [AV.slc 3 es5,iN n6,iN n7]) []/\(decide ((↑es5.length:Int)>(0:Int))=true->Q (.tup [AV.slc 3 [],iN 9]) [])/\(decide ((↑es5.length:Int)>(0:Int))=false->∃ b11,S 53 [iN job,iN 0,iN (IntKind.i64.wrap ((↑(List.map TRoJob.av t.Jobs).length:Int)-(1:Int)))] [] (.bool b11) []/\(b11=true->Q (.tup [AV.slc 3 [],iN 4]) [])/\(b11=false->∃ es15,S 88 [AV.slc 3 (List.map (fun x=>AV.slc 3 (List.map (AV.int IntKind.i64) x)) plan)] [] (.slc 3 es15) []/\∃ b17,S 95 [AV.slc 3 es15,iN job] [] (.bool b17) []/\(b17=true->Q (.tup [AV.slc 3 [],iN 5]) [])/\(b17=false->∃ (I21:Nat->List AV->Prop),(∃ m23,I21 m23 [AV.slc 0 [],iN 0,iN 0])/\∀ (m23:Nat),(∀ (n25 n26:Int),I21 m23 [AV.slc 0 [],iN n25,iN n26]->(decide (n26<(↑(List.map (fun x=>AV.slc 3 (List.map (AV.int IntKind.i64) x)) plan).length:Int))=true->∃ es30,((0:Int)<=n26/\(1:Nat)=(1:Nat)/\(List.map (fun x=>AV.slc 3 (List.map (AV.int IntKind.i64) x)) plan)[n26.toNat]?=some (.slc 3 es30))/\∃ (I32:Nat->List AV->Prop),(∃ m34,I32 m34 [AV.slc 0 [],iN n25,iN 0])/\MK t plan job S I32 es30 n26 m23 I21)/\(decide (n26<(↑(List.map (fun x=>AV.slc 3 (List.map (AV.int IntKind.i64) x)) plan).length:Int))=false->Q (.tup [AV.slc 3 [],iN 9]) []))/\∀ (v25:AV) (r26:List AV) (n27 n28:Int),I21 m23 [AV.slc 3 (v25::r26),iN n27,iN n28]->(decide (n28<(↑(List.map (fun x=>AV.slc 3 (List.map (AV.int IntKind.i64) x)) plan).length:Int))=true->∃ es32,((0:Int)<=n28/\(1:Nat)=(1:Nat)/\(List.map (fun x=>AV.slc 3 (List.map (AV.int IntKind.i64) x)) plan)[n28.toNat]?=some (.slc 3 es32))/\∃ (I34:Nat->List AV->Prop),(∃ m36,I34 m36 [AV.slc 3 (v25::r26),iN n27,iN 0])/\MK t plan job S I34 es32 n28 m23 I21)/\(decide (n28<(↑(List.map (fun x=>AV.slc 3 (List.map (AV.int IntKind.i64) x)) plan).length:Int))=false->∀ (b32:Bool),(v25::r26≠[]->b32=!true)->(b32=true->Q (.tup [AV.slc 3 [],iN 9]) [])/\(b32=false->Q (.tup [AV.slc 3 (v25::r26),iN 0]) [])))))))\/∃ n1 n2 n3 n4 n5 n6 n7 n8 n9 es10 es11 es12 es13 es14 n15,S 50 [t.av,.slc 3 (List.map (fun x=>AV.slc 3 (List.map (AV.int IntKind.i64) x)) plan)] [] (.tup [AV.eptr [iN n1,iN n2,iN n3,iN n4,iN n5,iN n6,iN n7,iN n8,iN n9,.slc 3 es10,.slc 3 es11,.slc 3 es12,.slc 3 es13,.slc 3 es14] (0:Nat),iN n15]) []/\((n15 != 0)=true->Q (.tup [AV.slc 3 [],iN n15]) [])/\((n15 != 0)=false->∃ es19 n20 n21,S 51 [AV.eptr [iN n1,iN n2,iN n3,iN n4,iN n5,iN n6,iN n7,iN n8,iN n9,.slc 3 es10,.slc 3 es11,.slc 3 es12,.slc 3 es13,.slc 3 es14] (0:Nat),.slc 3 (List.map (fun x=>AV.slc 3 (List.map (AV.int IntKind.i64) x)) plan)] [] (.tup [AV.slc 3 es19,iN n20,iN n21]) []/\(decide ((↑es19.length:Int)>(0:Int))=true->Q (.tup [AV.slc 3 [],iN 9]) [])/\(decide ((↑es19.length:Int)>(0:Int))=false->∃ b25,S 53 [iN job,iN 0,iN (IntKind.i64.wrap ((↑(List.map TRoJob.av t.Jobs).length:Int)-(1:Int)))] [] (.bool b25) []/\(b25=true->Q (.tup [AV.slc 3 [],iN 4]) [])/\(b25=false->∃ es29,S 88 [AV.slc 3 (List.map (fun x=>AV.slc 3 (List.map (AV.int IntKind.i64) x)) plan)] [] (.slc 3 es29) []/\∃ b31,S 95 [AV.slc 3 es29,iN job] [] (.bool b31) []/\(b31=true->Q (.tup [AV.slc 3 [],iN 5]) [])/\(b31=false->∃ (I35:Nat->List AV->Prop),(∃ m37,I35 m37 [AV.slc 0 [],iN 0,iN 0])/\∀ (m37:Nat),(∀ (n39 n40:Int),I35 m37 [AV.slc 0 [],iN n39,iN n40]->(decide (n40<(↑(List.map (fun x=>AV.slc 3 (List.map (AV.int IntKind.i64) x)) plan).length:Int))=true->∃ es44,((0:Int)<=n40/\(1:Nat)=(1:Nat)/\(List.map (fun x=>AV.slc 3 (List.map (AV.int IntKind.i64) x)) plan)[n40.toNat]?=some (.slc 3 es44))/\∃ (I46:Nat->List AV->Prop),(∃ m48,I46 m48 [AV.slc 0 [],iN n39,iN 0])/\MJ t plan job S I46 es44 n40 n1 n2 n3 n4 n5 n6 n7 n8 n9 es10 es11 es12 es13 es14 m37 I35)/\(decide (n40<(↑(List.map (fun x=>AV.slc 3 (List.map (AV.int IntKind.i64) x)) plan).length:Int))=false->Q (.tup [AV.slc 3 [],iN 9]) []))/\∀ (v39:AV) (r40:List AV) (n41 n42:Int),I35 m37 [AV.slc 3 (v39::r40),iN n41,iN n42]->(decide (n42<(↑(List.map (fun x=>AV.slc 3 (List.map (AV.int IntKind.i64) x)) plan).length:Int))=true->∃ es46,((0:Int)<=n42/\(1:Nat)=(1:Nat)/\(List.map (fun x=>AV.slc 3 (List.map (AV.int IntKind.i64) x)) plan)[n42.toNat]?=some (.slc 3 es46))/\∃ (I48:Nat->List AV->Prop),(∃ m50,I48 m50 [AV.slc 3 (v39::r40),iN n41,iN 0])/\MJ t plan job S I48 es46 n42 n1 n2 n3 n4 n5 n6 n7 n8 n9 es10 es11 es12 es13 es14 m37 I35)/\(decide (n42<(↑(List.map (fun x=>AV.slc 3 (List.map (AV.int IntKind.i64) x)) plan).length:Int))=false->∀ (b46:Bool),(v39::r40≠[]->b46=!true)->(b46=true->Q (.tup [AV.slc 3 [],iN 9]) [])/\(b46=false->Q (.tup [AV.slc 3 (v39::r40),iN 0]) []))))))
theorem s39 (t:TRoTask) (plan:List (List Int)) (job:Int) (v:AV) (O:List (List AV)) (h:R39 t plan job Sp Fo So (fun r O'=>r=v/\O'=O)):Sp 39 [t.av,.slc 3 (List.map (fun x=>.slc 3 (List.map (AV.int .i64) x)) plan),iN job] [] v O :=
 KQ (w:=⟨[],[(50,[.tup [.nilp,iN 0],.tup [.eptr [iN 0,iN 0,iN 0,iN 0,iN 0,iN 0,iN 0,iN 0,iN 0,.slc 3 [],.slc 3 [],.slc 3 [],.slc 3 [],.slc 3 []] 0,iN 0]]),(990000019,[.lit .i64 0,.lit .i64 2,.tup [.lit .i64 1,.lit .i64 15,.lit .i64 17,.lit .i64 2],.tup [.lit .i64 18],.tup [.lit .i64 20,.lit .i64 69,.lit .i64 70,.lit .i64 71,.lit .i64 72,.lit .i64 73,.lit .i64 74,.lit .i64 75,.lit .i64 76,.lit .i64 77,.lit .i64 78,.lit .i64 79,.lit .i64 80,.lit .i64 81,.lit .i64 82,.lit .i64 83,.lit .i64 84,.lit .i64 85,.lit .i64 86,.lit .i64 87,.lit .i64 88,.lit .i64 89,.lit .i64 90,.lit .i64 91]])],[],[],[]⟩) (k:=0) (keep:=⟨[0,1,2,3,6,7,8,9,10,13,14,15,16,17,18,20,21,23,31,40,44,51,56,57,58,59,65,66,67,69,70,71,72,110,116],[⟨14,[(13,.nilif),(14,iN 0),(58,iN 0)],[],[],[],[],[]⟩,⟨17,[(13,.nilif),(14,iN 0),(66,iN 0)],[],[],[],[],[]⟩,⟨21,[(71,iN 0)],[(18,41)],[],[],[],[]⟩],[],[(29,90000000013)]⟩) (boxes:=[]) mixed (by exact trivial) Tryz.func39 Tryz.call39 rfl rfl rfl (Nat.le_of_ble_eq_true rfl) (by kernel_rfl) (EA (PG rfl rfl)) h
theorem c39 (t:TRoTask) (ht:vM t) (plan:List (List Int)) (job:Int):Sp 39 [t.av,.slc 3 (yz plan),.int .i64 job] [] (.tup [.slc 3 (yz (yY t plan job).1),.int .i64 (yY t plan job).2]) []:=s39 t plan job _ _ (by
 unfold R39 MK MJ
 have hb:=c50 t ht plan
 unfold xM at hb
 by_cases he:jv t plan≠0
 ·rw [if_pos he] at hb
  refine .inl ⟨_,hb,fun _=>⟨by unfold yY; rw [if_pos he]; rfl,by trivial⟩,fun h=>absurd h (by simpa using he)⟩
 rw [if_neg he] at hb
 obtain ⟨hv,hp⟩:=Xm (Decidable.not_not.1 he)
 have hpl:=hp.len
 have hpf:=hp.few
 refine .inr ⟨_,_,_,_,_,_,_,_,_,_,_,_,_,_,_,hb,fun h=>by simp at h,fun _=>⟨_,_,_,c51 (yg t) (OK hv) plan hp,fun g=>⟨?_,by trivial⟩,fun g=>?_⟩⟩
 ·have g:=zt_ g
  rw [List.length_map] at g
  unfold yY; rw [if_neg he,if_pos (by omega)]; rfl
 have g0:=zf_ g
 rw [List.length_map] at g0
 have g:¬ (yD (yg t) plan).faults.length>0:=by omega
 rw [List.length_map]
 refine ⟨_,c53 ..,fun g2=>⟨?_,by trivial⟩,fun g2=>?_⟩
 ·unfold yY; rw [if_neg he,if_neg g,if_pos g2]; rfl
 have hjl:=hv.jl
 have hfl:=YC hp.small
 have hf18:plan.flatten.length<=18:=by omega
 refine ⟨_,c88 plan (by omega) (by omega),_,c95 plan.flatten job (by omega),fun g3=>⟨?_,by trivial⟩,fun g3=>?_⟩
 ·unfold yY; rw [if_neg he,if_neg g,if_neg (by rw [g2]; simp),if_pos (zt_ g3)]; rfl
 have g3:=zf_ g3
 have hjob:0<=job/\job<(yg t).RoTask.Jobs.length:=by
  rw [i64 (by omega)] at g2
  have:=yU.1 g2
  show 0<=job/\job<(t.Jobs.length:Int)
  omega
 have hres:∀ R,xX (yg t) plan job (none,0) 0 plan.length=R->yY t plan job=match R.1 with | none=>([],9) | some p=>(p,0):=by
  rintro R rfl
  unfold yY; rw [if_neg he,if_neg g,if_neg (by rw [g2]; simp),if_neg g3]
  first | done | rfl
 have hJ:=fun (i k:Nat) (hi:i<plan.length) (hk:k<=(plan.getD i []).length)=>Gx (yg t) (OK hv) (yL plan i k job) (LU hp hjob hi hk)
 generalize hd:yg t=d at *
 refine ⟨HC d plan job,⟨_,0,(none,0),rfl,by omega,rfl,rfl,fun p h=>by cases h⟩,?_⟩
 intro m
 simp only [List.length_map]
 refine ⟨?_,?_⟩
 ·rintro n n' ⟨i,s,hvs,hile,rfl,hr,hs⟩
  obtain ⟨hs1,rfl,rfl⟩:=YD hvs
  refine ⟨fun h3=>?_,fun h3=>⟨?_,by trivial⟩⟩
  ·have hi:i<plan.length:=by have:=zt_ h3; omega
   obtain ⟨hm,hg⟩:=vq hi
   have h6:=hp.small _ hm
   refine ⟨ym (plan.getD i []),⟨by omega,by trivial,by rw [Int.toNat_natCast,List.getElem?_map,hg]; rfl⟩,ME d plan job i (xY d plan job i s 0 ((plan.getD i []).length+1)),⟨_,0,s,by rw [hs1]; rfl,by omega,rfl,rfl,hs⟩,?_⟩
   have hw:IntKind.i64.wrap (((plan.getD i []).length:Int)+1)=((plan.getD i []).length+1:Nat):=yq (by omega)
   intro m
   simp only [yu,Int.toNat_natCast,hw]
   refine ⟨?_,?_⟩
   ·rintro n n' ⟨k,s2,hvs,hkle,rfl,hr2,hs2⟩
    obtain ⟨hs3,rfl,rfl⟩:=YD hvs
    refine ⟨fun h4=>?_,fun h4=>?_⟩
    ·have hk:k<(plan.getD i []).length+1:=by have:=zt_ h4; omega
     refine ⟨plan,⟨rfl,by omega,by omega,by omega,by omega,by omega,fun x hx=>by have:=hp.small x hx; omega⟩,_,_,_,hJ i k hi (by omega),fun g=>?_,fun g=>?_⟩
     ·have g':(yD d (yL plan i k job)).faults.length=0:=by simpa using g
      obtain ⟨v,r,hvr⟩:=ua (P:=yL plan i k job) (by rw [xk]; omega)
      exact .inr ⟨v,r,congrArg (AV.slc 3) hvr,by trivial,jR hi hk (by omega) hr2 hs2 (by rw [q7 g' (.inl hs3)]; exact congrArg (AV.slc 3) hvr.symm) (by rw [q7 g' (.inl hs3)])⟩
     ·have g':¬ (yD d (yL plan i k job)).faults.length=0:=by simpa using g
      exact .inl ⟨by trivial,by trivial,jR hi hk (by omega) hr2 hs2 (by rw [qt fun h=>absurd h g',hs3]; rfl) (by rw [qt fun h=>absurd h g'])⟩
    ·have hk:k=(plan.getD i []).length+1:=by have:=zf_ h4; omega
     subst hk
     rw [Nat.sub_self] at hr2
     exact ⟨by trivial,WI hi (by omega) hr hs2 hr2.symm (by rw [hs3]; rfl) rfl⟩
   ·rintro v r n n' ⟨k,s2,hvs,hkle,rfl,hr2,hs2⟩
    obtain ⟨⟨p,hp1,hp2⟩,rfl,rfl⟩:=YE hvs
    have hfv:AV.slc 3 (v::r)=wL s2.1:=by rw [hp1]; exact congrArg (AV.slc 3) hp2.symm
    refine ⟨fun h4=>?_,fun h4=>?_⟩
    ·have hk:k<(plan.getD i []).length+1:=by have:=zt_ h4; omega
     refine ⟨plan,⟨rfl,by omega,by omega,by omega,by omega,by omega,fun x hx=>by have:=hp.small x hx; omega⟩,_,_,_,hJ i k hi (by omega),fun g b hb=>⟨fun hbt=>(by rw [hb (by simp)] at hbt; cases hbt),fun _=>⟨fun c=>?_,fun c=>?_⟩⟩,fun g=>?_⟩
     ·have g':(yD d (yL plan i k job)).faults.length=0:=by simpa using g
      obtain ⟨v',r',hvr⟩:=ua (P:=yL plan i k job) (by rw [xk]; omega)
      exact .inr ⟨v',r',congrArg (AV.slc 3) hvr,by trivial,jR hi hk (by omega) hr2 hs2 (by rw [q7 g' (.inr (zt_ c))]; exact congrArg (AV.slc 3) hvr.symm) (by rw [q7 g' (.inr (zt_ c))])⟩
     ·have hno:(yD d (yL plan i k job)).faults.length=0->¬ (s2.1=none\/(yD d (yL plan i k job)).cost<s2.2):=fun _ h=>by
       rcases h with h | h
       ·rw [hp1] at h; cases h
       ·exact absurd h (zf_ c)
      exact .inr ⟨v,r,by trivial,by trivial,jR hi hk (by omega) hr2 hs2 (by rw [qt hno]; exact hfv) (by rw [qt hno])⟩
     ·have g':¬ (yD d (yL plan i k job)).faults.length=0:=by simpa using g
      exact .inr ⟨v,r,by trivial,by trivial,jR hi hk (by omega) hr2 hs2 (by rw [qt fun h=>absurd h g']; exact hfv) (by rw [qt fun h=>absurd h g'])⟩
    ·have hk:k=(plan.getD i []).length+1:=by have:=zf_ h4; omega
     subst hk
     rw [Nat.sub_self] at hr2
     exact ⟨by trivial,WI hi (by omega) hr hs2 hr2.symm hfv rfl⟩
  ·have hi:i=plan.length:=by have:=zf_ h3; omega
   subst hi
   rw [Nat.sub_self] at hr
   rw [hres s hr.symm,hs1]; rfl
 ·rintro v0 r0 n n' ⟨i,s,hvs,hile,rfl,hr,hs⟩
  obtain ⟨⟨p0,hp10,hp20⟩,rfl,rfl⟩:=YE hvs
  have hfv0:AV.slc 3 (v0::r0)=wL s.1:=by rw [hp10]; exact congrArg (AV.slc 3) hp20.symm
  refine ⟨fun h3=>?_,fun h3 b hb=>⟨fun hbt=>(by rw [hb (by simp)] at hbt; cases hbt),fun _=>⟨?_,by trivial⟩⟩⟩
  ·have hi:i<plan.length:=by have:=zt_ h3; omega
   obtain ⟨hm,hg⟩:=vq hi
   have h6:=hp.small _ hm
   refine ⟨ym (plan.getD i []),⟨by omega,by trivial,by rw [Int.toNat_natCast,List.getElem?_map,hg]; rfl⟩,ME d plan job i (xY d plan job i s 0 ((plan.getD i []).length+1)),⟨_,0,s,by rw [hfv0]; rfl,by omega,rfl,rfl,hs⟩,?_⟩
   have hw:IntKind.i64.wrap (((plan.getD i []).length:Int)+1)=((plan.getD i []).length+1:Nat):=yq (by omega)
   intro m
   simp only [yu,Int.toNat_natCast,hw]
   refine ⟨?_,?_⟩
   ·rintro n n' ⟨k,s2,hvs,hkle,rfl,hr2,hs2⟩
    obtain ⟨hs3,rfl,rfl⟩:=YD hvs
    refine ⟨fun h4=>?_,fun h4=>?_⟩
    ·have hk:k<(plan.getD i []).length+1:=by have:=zt_ h4; omega
     refine ⟨plan,⟨rfl,by omega,by omega,by omega,by omega,by omega,fun x hx=>by have:=hp.small x hx; omega⟩,_,_,_,hJ i k hi (by omega),fun g=>?_,fun g=>?_⟩
     ·have g':(yD d (yL plan i k job)).faults.length=0:=by simpa using g
      obtain ⟨v,r,hvr⟩:=ua (P:=yL plan i k job) (by rw [xk]; omega)
      exact .inr ⟨v,r,congrArg (AV.slc 3) hvr,by trivial,jR hi hk (by omega) hr2 hs2 (by rw [q7 g' (.inl hs3)]; exact congrArg (AV.slc 3) hvr.symm) (by rw [q7 g' (.inl hs3)])⟩
     ·have g':¬ (yD d (yL plan i k job)).faults.length=0:=by simpa using g
      exact .inl ⟨by trivial,by trivial,jR hi hk (by omega) hr2 hs2 (by rw [qt fun h=>absurd h g',hs3]; rfl) (by rw [qt fun h=>absurd h g'])⟩
    ·have hk:k=(plan.getD i []).length+1:=by have:=zf_ h4; omega
     subst hk
     rw [Nat.sub_self] at hr2
     exact ⟨by trivial,WI hi (by omega) hr hs2 hr2.symm (by rw [hs3]; rfl) rfl⟩
   ·rintro v r n n' ⟨k,s2,hvs,hkle,rfl,hr2,hs2⟩
    obtain ⟨⟨p,hp1,hp2⟩,rfl,rfl⟩:=YE hvs
    have hfv:AV.slc 3 (v::r)=wL s2.1:=by rw [hp1]; exact congrArg (AV.slc 3) hp2.symm
    refine ⟨fun h4=>?_,fun h4=>?_⟩
    ·have hk:k<(plan.getD i []).length+1:=by have:=zt_ h4; omega
     refine ⟨plan,⟨rfl,by omega,by omega,by omega,by omega,by omega,fun x hx=>by have:=hp.small x hx; omega⟩,_,_,_,hJ i k hi (by omega),fun g b hb=>⟨fun hbt=>(by rw [hb (by simp)] at hbt; cases hbt),fun _=>⟨fun c=>?_,fun c=>?_⟩⟩,fun g=>?_⟩
     ·have g':(yD d (yL plan i k job)).faults.length=0:=by simpa using g
      obtain ⟨v',r',hvr⟩:=ua (P:=yL plan i k job) (by rw [xk]; omega)
      exact .inr ⟨v',r',congrArg (AV.slc 3) hvr,by trivial,jR hi hk (by omega) hr2 hs2 (by rw [q7 g' (.inr (zt_ c))]; exact congrArg (AV.slc 3) hvr.symm) (by rw [q7 g' (.inr (zt_ c))])⟩
     ·have hno:(yD d (yL plan i k job)).faults.length=0->¬ (s2.1=none\/(yD d (yL plan i k job)).cost<s2.2):=fun _ h=>by
       rcases h with h | h
       ·rw [hp1] at h; cases h
       ·exact absurd h (zf_ c)
      exact .inr ⟨v,r,by trivial,by trivial,jR hi hk (by omega) hr2 hs2 (by rw [qt hno]; exact hfv) (by rw [qt hno])⟩
     ·have g':¬ (yD d (yL plan i k job)).faults.length=0:=by simpa using g
      exact .inr ⟨v,r,by trivial,by trivial,jR hi hk (by omega) hr2 hs2 (by rw [qt fun h=>absurd h g']; exact hfv) (by rw [qt fun h=>absurd h g'])⟩
    ·have hk:k=(plan.getD i []).length+1:=by have:=zf_ h4; omega
     subst hk
     rw [Nat.sub_self] at hr2
     exact ⟨by trivial,WI hi (by omega) hr hs2 hr2.symm hfv rfl⟩
  ·have hi:i=plan.length:=by have:=zf_ h3; omega
   subst hi
   rw [Nat.sub_self] at hr
   rw [hres s hr.symm,hp10,<- hp20])
end Go.Proofs.YtdeeekgohhkdbaaGreatDoor

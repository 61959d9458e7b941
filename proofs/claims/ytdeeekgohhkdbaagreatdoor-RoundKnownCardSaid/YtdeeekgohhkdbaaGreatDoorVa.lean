/- Contracts: a job more in a plan. -/
import Derived.Test.YtdeeekgohhkdbaaGreatDoorUh
namespace Go.Proofs.YtdeeekgohhkdbaaGreatDoor
open Go.IntKind (wrap i64 u64)
open Go.RowKit
abbrev InS:=Option (List (List Int)) × Int
def xd (d:TDepot) (plan:List (List Int)) (job:Int) (i:Nat) (s:InS) (k:Nat):InS :=
 if (y4 d (y7 plan i k job)).faults.length=0/\(s.1=none\/(y4 d (y7 plan i k job)).cost<s.2) then (some (y7 plan i k job),(y4 d (y7 plan i k job)).cost) else s
def vT (d:TDepot) (plan:List (List Int)) (job:Int) (i:Nat) (s:InS) (k n:Nat):InS:=(List.range' k n).foldl (xd d plan job i) s
def uK (d:TDepot) (plan:List (List Int)) (job:Int) (s:InS) (i n:Nat):InS:=(List.range' i n).foldl (fun s i=>vT d plan job i s 0 ((plan.getD i []).length+1)) s
def xe (t:TRoTask) (plan:List (List Int)) (job:Int):List (List Int) × Int :=
 if xG t plan≠0 then ([],xG t plan) else if (y4 (yr t) plan).faults.length>0 then ([],9) else if qa job 0 (wrap i64 ((t.Jobs.length:Int)-1))=true then ([],4) else if job∈plan.flatten then ([],5) else
  match (uK (yr t) plan job (none,0) 0 plan.length).1 with
  |none=>([],9)
  |some p=>(p,0)
def wQ:Option (List (List Int))->AV
 |none=>.slc 0 []
 |some p=>.slc 3 (yC p)
def uW (s:InS):Prop:=∀p,s.1=some p->0<p.length
theorem vt {L:List (List Int)} {i k:Nat} {j:Int}:(y7 L i k j).length=L.length:=by simp[y7]
theorem ji {d:TDepot} {plan:List (List Int)} {job:Int} {i k:Nat} {s:InS} (h:(y4 d (y7 plan i k job)).faults.length=0) (h2:s.1=none\/(y4 d (y7 plan i k job)).cost<s.2) :
  xd d plan job i s k=(some (y7 plan i k job),(y4 d (y7 plan i k job)).cost):=if_pos ⟨h,h2⟩
theorem qD {d:TDepot} {plan:List (List Int)} {job:Int} {i k:Nat} {s:InS} (h:(y4 d (y7 plan i k job)).faults.length=0->¬ (s.1=none\/(y4 d (y7 plan i k job)).cost<s.2)):xd d plan job i s k=s:=if_neg fun hh=>h hh.1 hh.2
theorem Ni {d:TDepot} {plan:List (List Int)} {job:Int} {i k:Nat} {s:InS} (h:uW s) (hi:i<plan.length):uW (xd d plan job i s k):=by
 unfold xd;split
 ·intro p hp;cases hp;rw[vt];omega
 ·exact h
theorem Lr {d:TDepot} {plan:List (List Int)} {job:Int} {i k n:Nat} {s:InS}:vT d plan job i s k (n+1)=vT d plan job i (xd d plan job i s k) (k+1) n:=rfl
theorem Lq {d:TDepot} {plan:List (List Int)} {job:Int} {i n:Nat} {s:InS}:uK d plan job s i (n+1)=uK d plan job (vT d plan job i s 0 ((plan.getD i []).length+1)) (i+1) n:=rfl
theorem G1 {d:TDepot} {plan:List (List Int)} (hp:Ua d plan) {job:Int} (hj:0<=job/\job<d.RoTask.Jobs.length) {i k:Nat} (hi:i<plan.length) (_hk:k<=(plan.getD i []).length):SX d (y7 plan i k job):=by
 have hm:plan.getD i []∈plan:=by rw[List.getD_eq_getElem?_getD,List.getElem?_eq_getElem hi];exact List.getElem_mem hi
 have h6:=hp.small _ hm;have hmem:∀x∈y7 plan i k job,x∈plan\/x=(plan.getD i []).take k++job::(plan.getD i []).drop k:=fun x hx=>List.mem_or_eq_of_mem_set hx
 refine⟨by rw[vt];exact hp.len,hp.few,fun x hx=>?_,fun x hx n hn=>?_⟩
 ·rcases hmem x hx with h | rfl
  ·have:=hp.small x h;omega
  ·simp only[List.length_append,List.length_take,List.length_cons,List.length_drop];omega
 ·rcases hmem x hx with h | rfl
  ·exact hp.jobs x h n hn
  ·rcases List.mem_append.1 hn with h | h
   ·exact hp.jobs _ hm n (List.mem_of_mem_take h)
   ·rcases List.mem_cons.1 h with rfl | h
    ·exact hj
    ·exact hp.jobs _ hm n (List.mem_of_mem_drop h)
def FJ (s:List Int) (x:Int) (_S:SpecF) (_Fr:FreshF) (_Sq:SeqF) (Q:ym):Prop :=
 ∃(I0:Nat->List AV->Prop),(∃m2,I0 m2 [iN 0])/\∀(m2:Nat) (n3:Int),I0 m2 [iN n3]->(decide (n3<(↑(List.map (AV.int i64) s).length:Int))=true->∃n7,((0:Int)<=n3/\(1:Nat)=(1:Nat)/\(List.map (AV.int i64) s)[n3.toNat]? = some (iN n7))/\((x == n7)=true->Q (iN n3) [])/\((x == n7)=false->∃k11,k11<m2/\I0 k11 [iN (wrap i64 (n3+1))]))/\(decide (n3<(↑(List.map (AV.int i64) s).length:Int))=false->Q (iN (-1:Int)) [])
theorem zca (s:List Int) (x:Int) (v:AV) (O:List (List AV)) (h:FJ s x Sp Fo So (fun r O'=>r=v/\O'=O)):Sp 122 [.slc 3 (List.map (AV.int .i64) s),iN x] [] v O :=
 yj (w:=⟨[],[],[],[],[]⟩) (k:=0) (keep:=⟨[0,1,4,5,7,8,9,16],[⟨2,[(8,iN 0)],[],[],[],[],[]⟩],[],[]⟩) (boxes:=[]) mixed (by exact trivial) Tryz.func122 Tryz.call122 rfl rfl rfl (Nat.le_of_ble_eq_true rfl) (by kernel_rfl) h
theorem zbh (s:List Int) (x:Int) (hl:s.length<=4611686018427387904):Sp 122 [.slc 3 (yo s),.int .i64 x] [] (.int .i64 (yI (fun y=>x == y) 0 s)) []:=zca s x _ _ (by
 unfold FJ;refine⟨fun m vs=>∃k:Nat,vs=[.int .i64 k]/\k<=s.length/\m=s.length-k/\yI (fun y=>x == y) k (s.drop k)=yI (fun y=>x == y) 0 s,⟨_,0,rfl,by omega,rfl,rfl⟩,?_⟩;rintro m n ⟨k,hk,hle,rfl,hn⟩;cases hk;simp only[List.length_map];refine⟨fun h3=>?_,fun h3=>⟨?_,by trivial⟩⟩
 ·have h3:k<s.length:=by have:=zt_ h3;omega
  have hat:=qE (f:=fun y=>x == y) (List.getElem?_eq_getElem h3);have hg:(List.map (AV.int .i64) s)[((k:Nat):Int).toNat]? = some (.int .i64 s[k]):=by rw[Int.toNat_natCast,List.getElem?_map,List.getElem?_eq_getElem h3];rfl
  refine⟨_,⟨by omega,by trivial,hg⟩,fun h4=>⟨?_,by trivial⟩,fun h4=>⟨_,?_,k+1,?_,by omega,rfl,?_⟩⟩
  ·rw[<- hn,hat,h4];rfl
  ·omega
  ·rw[yx (by omega)]
  ·rw[<- hn,hat,h4];rfl
 ·have:k=s.length:=by have:=zf_ h3;omega
  rw[<- hn,this,List.drop_length];rfl)
def R95 (s:List Int) (x:Int) (S:SpecF) (_Fr:FreshF) (_Sq:SeqF) (Q:ym):Prop :=
 ∃n0,S 122 [AV.slc 3 (List.map (AV.int i64) s),iN x] [] (iN n0) []/\Q (.bool (decide (n0>=0))) []
theorem s95 (s:List Int) (x:Int) (v:AV) (O:List (List AV)) (h:R95 s x Sp Fo So (fun r O'=>r=v/\O'=O)):Sp 95 [.slc 3 (List.map (AV.int .i64) s),iN x] [] v O :=
 yj (w:=⟨[],[],[],[],[]⟩) (k:=0) (keep:=⟨[0,1,4],[],[],[]⟩) (boxes:=[]) mixed (by exact trivial) Tryz.func95 Tryz.call95 rfl rfl rfl (Nat.le_of_ble_eq_true rfl) (by kernel_rfl) h
theorem c95 (s:List Int) (x:Int) (hl:s.length<=4611686018427387904):Sp 95 [.slc 3 (yo s),.int .i64 x] [] (.bool (decide (x∈s))) []:=s95 s x _ _ (by
 refine⟨_,zbh s x hl,?_,by trivial⟩;rw[qk];congr 1;rw[Bool.eq_iff_iff];simp)
end Go.Proofs.YtdeeekgohhkdbaaGreatDoor

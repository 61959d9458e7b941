/- Contracts: a job is done. Contracts: the rounds of a lorry. -/
import Derived.Test.YtdeeekgohhkdbaaGreatDoorRq
namespace Go.Proofs.YtdeeekgohhkdbaaGreatDoor
open Go.RowKit
def j7:List Int->List TRoKind->Int->Int->Int × Int
 | n::r,k::ks,room,price=>j7 r ks (IntKind.i64.wrap (room-IntKind.i64.wrap (n*k.Size))) (IntKind.i64.wrap (price+IntKind.i64.wrap (n*k.Price)))
 | [],_,room,price=>(room,price)
 | _::_,[],room,price=>(room,price)
theorem Me {P:List Int} {K:List TRoKind} {k:Nat} {n:Int} {x:TRoKind} (hn:P[k]?=some n) (hx:K[k]?=some x) (a b:Int) :
  j7 (P.drop k) (K.drop k) a b=j7 (P.drop (k+1)) (K.drop (k+1)) (IntKind.i64.wrap (a-IntKind.i64.wrap (n*x.Size))) (IntKind.i64.wrap (b+IntKind.i64.wrap (n*x.Price))):=by
 obtain ⟨h1,rfl⟩:=List.getElem?_eq_some_iff.1 hn
 obtain ⟨h2,rfl⟩:=List.getElem?_eq_some_iff.1 hx
 rw [List.drop_eq_getElem_cons h1,List.drop_eq_getElem_cons h2]; rfl
theorem P1 {P:List Int} (K:List TRoKind) (a b:Int):j7 (P.drop P.length) K a b=(a,b):=by
 rw [List.drop_length]; rfl
def Tq (d:TDepot) (r:TTour) (n:Int):Int:=IntKind.i64.wrap (r.now+vG d.RoTask r.last n)
def ud (d:TDepot) (r:TTour) (n:Int):Int:=xo (Tq d r n) (xy d n).From
def TG (d:TDepot) (r:TTour) (n:Int):Int:=IntKind.i64.wrap (ud d r n+(yZ d.RoTask n).Seconds)
def uJ (d:TDepot) (r:TTour) (n:Int):Int × Int:=j7 (yZ d.RoTask n).Parts d.RoTask.Kinds r.room r.price
def OY (d:TDepot) (r:TTour) (n:Int):TTour:={ r with room:=(uJ d r n).1,price:=(uJ d r n).2,value:=IntKind.i64.wrap (r.value+(yZ d.RoTask n).Value) }
def Ix (d:TDepot) (r:TTour) (n:Int):TRoStop:=⟨n,Tq d r n,ud d r n,TG d r n⟩
def Lq (d:TDepot) (r:TTour) (n:Int):TTour:={ OY d r n with now:=TG d r n,last:=n,stops:=r.stops++[Ix d r n] }
def PV (s:TRoSpan):Bool:=s.From == 1 && (s.Until == 0 && true)
def qZ (d:TDepot) (r:TTour) (n:Int):Bool:=!PV (xy d n) && !decide (TG d r n>(xy d n).Until)
def qb (d:TDepot) (r:TTour) (n:Int):TTour:=if qZ d r n then Lq d r n else OY d r n
structure WN (d:TDepot):Prop where
 jl:d.RoTask.Jobs.length<=6
 sl:d.spans.length=d.RoTask.Jobs.length
 pl:∀ x∈d.RoTask.Jobs,x.Parts.length=d.RoTask.Kinds.length
 kl:d.RoTask.Kinds.length<=4
theorem Gc:yk Tryz.prog 51=true:=by kernel_rfl
theorem Pk (L:List TRoStop):(List.flatMap AV.cells (L.map TRoStop.av)).length=L.length*4:=by
 induction L with
 | nil=>rfl
 | cons x r ih=>simp only [List.map_cons,List.flatMap_cons,List.length_append,ih,List.length_cons]; show 4+_=_; omega
theorem GJ (L:List TRoStop):yw (List.flatMap AV.cells (L.map TRoStop.av))=true:=by
 unfold yw
 rw [List.all_eq_true]
 intro v hv
 obtain ⟨a,ha,hva⟩:=List.mem_flatMap.1 hv
 obtain ⟨s,_,rfl⟩:=List.mem_map.1 ha
 have:v∈s.cs:=hva
 unfold TRoStop.cs at this
 rcases List.mem_cons.1 this with rfl | h
 ·rfl
 rcases List.mem_cons.1 h with rfl | h
 ·rfl
 rcases List.mem_cons.1 h with rfl | h
 ·rfl
 ·rw [List.mem_singleton.1 h]; rfl
theorem IW (L:List TRoStop):yx 4 (L.map TRoStop.av):=fun v hv=>by
 obtain ⟨s,_,rfl⟩:=List.mem_map.1 hv; rfl
def R58 (d:TDepot) (r:TTour) (n:Int) (S:SpecF) (_Fr:FreshF) (_Sq:SeqF) (Q:yj):Prop :=
 ∃ n0 n1,((0:Int)<=n/\(2:Nat)=(2:Nat)/\(List.map TRoSpan.av d.spans)[n.toNat]?=some (.agg [iN n0,iN n1]))/\∃ s3 n4 n5 n6 n7 es8 n9 b10 n11,((0:Int)<=n/\(9:Nat)=(9:Nat)/\(List.map TRoJob.av d.RoTask.Jobs)[n.toNat]?=some (.agg [AV.str s3,iN n4,iN n5,iN n6,iN n7,.slc 3 es8,iN n9,.bool b10,iN n11]))/\∃ n13,S 82 [AV.eptr d.cs (0:Nat),iN (r.on d).last,iN n] [] (iN n13) []/\∃ (I15:Nat->List AV->Prop),(∃ m17,I15 m17 [iN 0,.agg [AV.str (r.on d).RoLorry.Name,iN (r.on d).RoLorry.Lift,iN (r.on d).RoLorry.Room,iN (r.on d).RoLorry.From,iN (r.on d).RoLorry.Until,iN (r.on d).RoLorry.PerHour,.eptr d.cs (0:Nat),iN (r.on d).now,iN (r.on d).last,.slc 3 (List.map TRoStop.av (r.on d).stops),iN (r.on d).room,iN (r.on d).price,iN (r.on d).value]])/\∀ (m17:Nat) (n18:Int) (s19:ByteArray) (n20 n21 n22 n23 n24 n25 n26 n27 n28 n29 n30 n31 n32 n33:Int) (es34 es35 es36 es37 es38:List AV) (n39 n40:Int) (es41:List AV) (n42 n43 n44:Int),I15 m17 [iN n18,.agg [AV.str s19,iN n20,iN n21,iN n22,iN n23,iN n24,.eptr [iN n25,iN n26,iN n27,iN n28,iN n29,iN n30,iN n31,iN n32,iN n33,.slc 3 es34,.slc 3 es35,.slc 3 es36,.slc 3 es37,.slc 3 es38] (0:Nat),iN n39,iN n40,.slc 3 es41,iN n42,iN n43,iN n44]]->(decide (n18<(↑es8.length:Int))=true->∃ n48,((0:Int)<=n18/\(1:Nat)=(1:Nat)/\es8[n18.toNat]?=some (iN n48))/\∃ n50 n51,((0:Int)<=n18/\(2:Nat)=(2:Nat)/\es34[n18.toNat]?=some (.agg [iN n50,iN n51]))/\∃ n53 n54,((0:Int)<=n18/\(2:Nat)=(2:Nat)/\es34[n18.toNat]?=some (.agg [iN n53,iN n54]))/\yi [iN n0,iN n1]/\yi [AV.str s3,iN n4,iN n5,iN n6,iN n7,.slc 3 es8,iN n9,.bool b10,iN n11]/\yi [iN n,iN (IntKind.i64.wrap ((r.on d).now+n13)),iN (if n0>IntKind.i64.wrap ((r.on d).now+n13) then n0 else IntKind.i64.wrap ((r.on d).now+n13)),iN (IntKind.i64.wrap ((if n0>IntKind.i64.wrap ((r.on d).now+n13) then n0 else IntKind.i64.wrap ((r.on d).now+n13))+n7))]/\∃ k59,k59<m17/\I15 k59 [iN (IntKind.i64.wrap (n18+1)),.agg [AV.str s19,iN n20,iN n21,iN n22,iN n23,iN n24,.eptr [iN n25,iN n26,iN n27,iN n28,iN n29,iN n30,iN n31,iN n32,iN n33,.slc 3 es34,.slc 3 es35,.slc 3 es36,.slc 3 es37,.slc 3 es38] (0:Nat),iN n39,iN n40,.slc 3 es41,iN (IntKind.i64.wrap (n42-IntKind.i64.wrap (n48*n50))),iN (IntKind.i64.wrap (n43+IntKind.i64.wrap (n48*n54))),iN n44]])/\(decide (n18<(↑es8.length:Int))=false->((n0 == 1 && (n1 == 0 && true))=true->Q (.bool false) [[AV.str s19,iN n20,iN n21,iN n22,iN n23,iN n24,.eptr [iN n25,iN n26,iN n27,iN n28,iN n29,iN n30,iN n31,iN n32,iN n33,.slc 3 es34,.slc 3 es35,.slc 3 es36,.slc 3 es37,.slc 3 es38] (0:Nat),iN n39,iN n40,.slc 3 es41,iN n42,iN n43,iN (IntKind.i64.wrap (n44+n11))]])/\((n0 == 1 && (n1 == 0 && true))=false->(decide (IntKind.i64.wrap ((if true=true then if n0>IntKind.i64.wrap ((r.on d).now+n13) then n0 else IntKind.i64.wrap ((r.on d).now+n13) else if n0<IntKind.i64.wrap ((r.on d).now+n13) then n0 else IntKind.i64.wrap ((r.on d).now+n13))+n7)>n1)=true->Q (.bool false) [[AV.str s19,iN n20,iN n21,iN n22,iN n23,iN n24,.eptr [iN n25,iN n26,iN n27,iN n28,iN n29,iN n30,iN n31,iN n32,iN n33,.slc 3 es34,.slc 3 es35,.slc 3 es36,.slc 3 es37,.slc 3 es38] (0:Nat),iN n39,iN n40,.slc 3 es41,iN n42,iN n43,iN (IntKind.i64.wrap (n44+n11))]])/\(decide (IntKind.i64.wrap ((if true=true then if n0>IntKind.i64.wrap ((r.on d).now+n13) then n0 else IntKind.i64.wrap ((r.on d).now+n13) else if n0<IntKind.i64.wrap ((r.on d).now+n13) then n0 else IntKind.i64.wrap ((r.on d).now+n13))+n7)>n1)=false->∃ es52,S 108 [AV.slc 3 es41] [] (.slc 2 es52) []/\yx (4:Nat) [AV.agg [iN n,iN (IntKind.i64.wrap ((r.on d).now+n13)),iN (if n0>IntKind.i64.wrap ((r.on d).now+n13) then n0 else IntKind.i64.wrap ((r.on d).now+n13)),iN (IntKind.i64.wrap ((if n0>IntKind.i64.wrap ((r.on d).now+n13) then n0 else IntKind.i64.wrap ((r.on d).now+n13))+n7))]]/\((es52=[]\/(0:Nat)<(1:Nat))/\(es52.length+1+(512:Nat))*161<=(1125899906842624:Nat)/\yx (4:Nat) es52/\yw [iN n,iN (IntKind.i64.wrap ((r.on d).now+n13)),iN (if n0>IntKind.i64.wrap ((r.on d).now+n13) then n0 else IntKind.i64.wrap ((r.on d).now+n13)),iN (IntKind.i64.wrap ((if n0>IntKind.i64.wrap ((r.on d).now+n13) then n0 else IntKind.i64.wrap ((r.on d).now+n13))+n7))]=true/\yw (List.flatMap AV.cells es52)=true)/\(0:Nat)+(es52.length+1)*4<=(List.flatMap AV.cells es52++[iN n,iN (IntKind.i64.wrap ((r.on d).now+n13)),iN (if n0>IntKind.i64.wrap ((r.on d).now+n13) then n0 else IntKind.i64.wrap ((r.on d).now+n13)),iN (IntKind.i64.wrap ((if n0>IntKind.i64.wrap ((r.on d).now+n13) then n0 else IntKind.i64.wrap ((r.on d).now+n13))+n7))]).length/\∃ es57,(es57.length=es52.length+1/\List.flatMap AV.cells es57=List.drop (0:Nat) (List.flatMap AV.cells es52++[iN n,iN (IntKind.i64.wrap ((r.on d).now+n13)),iN (if n0>IntKind.i64.wrap ((r.on d).now+n13) then n0 else IntKind.i64.wrap ((r.on d).now+n13)),iN (IntKind.i64.wrap ((if n0>IntKind.i64.wrap ((r.on d).now+n13) then n0 else IntKind.i64.wrap ((r.on d).now+n13))+n7))])/\j0 (4:Nat) (yk Tryz.prog (51:Nat)) es57)/\Q (.bool true) [[AV.str s19,iN n20,iN n21,iN n22,iN n23,iN n24,.eptr [iN n25,iN n26,iN n27,iN n28,iN n29,iN n30,iN n31,iN n32,iN n33,.slc 3 es34,.slc 3 es35,.slc 3 es36,.slc 3 es37,.slc 3 es38] (0:Nat),iN (IntKind.i64.wrap ((if n0>IntKind.i64.wrap ((r.on d).now+n13) then n0 else IntKind.i64.wrap ((r.on d).now+n13))+n7)),iN n,.slc 3 es57,iN n42,iN n43,iN (IntKind.i64.wrap (n44+n11))]])))
theorem s58 (d:TDepot) (r:TTour) (n:Int) (v:AV) (O:List (List AV)) (h:R58 d r n Sp Fo So (fun r O'=>r=v/\O'=O)):Sp 58 [.ref 0 0,iN n] [(r.on d).cs] v O :=
 ye (w:=⟨[],[(108,[.tup [.nilmap,.nilp]])],[],[],[]⟩) (k:=0) (keep:=⟨[0,1,4,5,6,7,8,9,61,62,63,64,129],[⟨6,[(63,iN 0)],[],[(1000000,.agg [.str default,iN 0,iN 0,iN 0,iN 0,iN 0,.eptr [iN 0,iN 0,iN 0,iN 0,iN 0,iN 0,iN 0,iN 0,iN 0,.slc 3 [],.slc 3 [],.slc 3 [],.slc 3 [],.slc 3 []] 0,iN 0,iN 0,.slc 3 [],iN 0,iN 0,iN 0])],[],[],[]⟩],[],[(15,3009000000)]⟩) (boxes:=[⟨131,false,(r.on d).cs⟩]) mixed (by exact trivial) Tryz.func58 Tryz.call58 rfl rfl rfl (Nat.le_of_ble_eq_true rfl) (by kernel_rfl) h
theorem c58 (d:TDepot) (hd:WN d) (r:TTour) (n:Int) (h0:0<=n) (hn:n<d.RoTask.Jobs.length) (hl:r.last<d.RoTask.Jobs.length) (hst:r.stops.length<=1000) :
  Sp 58 [.ref 0 0,.int .i64 n] [(r.on d).cs] (.bool (qZ d r n)) [((qb d r n).on d).cs]:=s58 d r n _ _ (by
 unfold R58
 have hj:=wZ h0 hn
 have hp:=hd.pl _ hj.2
 have hkl:=hd.kl
 refine ⟨_,_,⟨h0,by trivial,KP h0 (by rw [hd.sl]; exact hn)⟩,_,_,_,_,_,_,_,_,_,⟨h0,by trivial,hj.1⟩,_,c82 d r.last n hl hn,?_⟩
 refine ⟨fun m vs=>∃ (k:Nat) (ro pr:Int),vs=[.int .i64 k,(({ r with room:=ro,price:=pr }:TTour).on d).av]/\k<=(yZ d.RoTask n).Parts.length/\m=(yZ d.RoTask n).Parts.length-k /\
  j7 ((yZ d.RoTask n).Parts.drop k) (d.RoTask.Kinds.drop k) ro pr=uJ d r n,⟨_,0,r.room,r.price,rfl,by omega,rfl,rfl⟩,?_⟩
 intro m
 intros
 rename_i hJ
 obtain ⟨k,ro,pr,hk,hle,rfl,hpf⟩:=hJ
 simp only [TTour.av,TTour.cs,TTour.on,TDepot.ptr,TDepot.cs] at hk
 cases hk
 rename_i ro pr
 simp only [List.length_map]
 refine ⟨fun h3=>?_,fun h3=>?_⟩
 ·have h3:k<(yZ d.RoTask n).Parts.length:=by have:=zt_ h3; omega
  obtain ⟨p,hp1,hp2⟩:=yE (f:=AV.int .i64) h3
  obtain ⟨q,hq1,hq2⟩:=yE (f:=TRoKind.av) (l:=d.RoTask.Kinds) (k:=k) (by omega)
  refine ⟨_,⟨by omega,by trivial,hp2⟩,_,_,⟨by omega,by trivial,hq2⟩,_,_,⟨by omega,by trivial,hq2⟩,?_⟩
  repeat (first | refine And.intro rfl ?_ | refine And.intro trivial ?_)
  exact ⟨_,(by omega:(yZ d.RoTask n).Parts.length-(k+1)<(yZ d.RoTask n).Parts.length-k),k+1,IntKind.i64.wrap (ro-IntKind.i64.wrap (p*q.Size)),IntKind.i64.wrap (pr+IntKind.i64.wrap (p*q.Price)),(by rw [yq (by omega)]; rfl),by omega,rfl,by rw [<- hpf,Me hp1 hq1]⟩
 ·have hk:k=(yZ d.RoTask n).Parts.length:=by have:=zf_ h3; omega
  subst hk
  rw [P1] at hpf
  obtain ⟨rfl,rfl⟩:ro=(uJ d r n).1/\pr=(uJ d r n).2:=by rw [<- hpf]; exact ⟨rfl,rfl⟩
  have ha:(if (xy d n).From>IntKind.i64.wrap (r.now+vG d.RoTask r.last n) then (xy d n).From else IntKind.i64.wrap (r.now+vG d.RoTask r.last n))=ud d r n:=rfl
  refine ⟨fun g=>?_,fun g=>⟨fun g2=>?_,fun g2=>?_⟩⟩
  ·have hb:qZ d r n=false:=by unfold qZ PV; rw [g]; rfl
   have ht:qb d r n=OY d r n:=by unfold qb; rw [if_neg (by rw [hb]; simp)]
   rw [hb,ht]; exact ⟨rfl,rfl⟩
  ·have g2:decide (TG d r n>(xy d n).Until)=true:=g2
   have hb:qZ d r n=false:=by unfold qZ; rw [g2,Bool.not_true,Bool.and_false]
   have ht:qb d r n=OY d r n:=by unfold qb; rw [if_neg (by rw [hb]; simp)]
   rw [hb,ht]; exact ⟨rfl,rfl⟩
  ·have g2:decide (TG d r n>(xy d n).Until)=false:=g2
   have hb:qZ d r n=true:=by unfold qZ PV; rw [g2,g]; rfl
   have ht:qb d r n=Lq d r n:=by unfold qb; rw [if_pos hb]
   rw [hb,ht]
   refine ⟨_,FX r.stops,fun v hv=>by rw [List.mem_singleton.1 hv]; rfl,⟨.inr (by omega),by rw [List.length_map]; omega,IW _,rfl,GJ _⟩,?_,(r.stops++[Ix d r n]).map TRoStop.av,⟨by simp,?_,?_⟩,rfl,rfl⟩
   ·rw [List.length_append,Pk,List.length_map]; show 0+_<=_+4; omega
   ·rw [List.map_append,List.flatMap_append]; rfl
   ·rw [Gc]
    intro v hv
    obtain ⟨s,_,rfl⟩:=List.mem_map.1 hv
    exact ⟨_,rfl,rfl⟩)
def Vq (dn:Int) (j:Nat):Bool:=IntKind.i64.wrap (((BitVec.ofInt 64 (dn.fdiv ((2:Int) ^ min j 64)) &&& BitVec.ofInt 64 1).toNat:Nat):Int) == 0
def orE (dn:Int) (j:Nat):Int:=IntKind.i64.wrap (((BitVec.ofInt 64 dn ||| BitVec.ofInt 64 (IntKind.i64.wrap (1*(2:Int) ^ min j 64))).toNat:Nat):Int)
def SL (dn:Int):Nat:=(List.range 6).countP (Vq dn)
def Gg:Bool:=(List.range 64).all fun dn=>(List.range 6).all fun j=>!Vq (dn:Nat) j || (decide (0<=orE (dn:Nat) j) && (decide (orE (dn:Nat) j<64) && decide (SL (orE (dn:Nat) j)<SL (dn:Nat))))
theorem M8:Gg=true:=by kernel_rfl
theorem OC {dn:Int} {j:Nat} (h0:0<=dn) (h1:dn<64) (hj:j<6) (hf:Vq dn j=true):0<=orE dn j/\orE dn j<64/\SL (orE dn j)<SL dn:=by
 obtain ⟨m,rfl⟩:∃ m:Nat,dn=m:=⟨dn.toNat,by omega⟩
 have h:=List.all_eq_true.1 (List.all_eq_true.1 M8 m (List.mem_range.2 (by omega))) j (List.mem_range.2 hj)
 rw [hf] at h
 simpa using h
def Yq (d:TDepot) (r:TTour):Bool:=!decide (wm d r>r.RoLorry.Until) && !decide (r.room<0)
def SG (d:TDepot) (r:TTour) (dn:Int) (j:Nat):Bool:=Vq dn j && (decide ((yZ d.RoTask j).Height<=r.RoLorry.Lift) && qZ d r j)
def wT (d:TDepot):Nat->TTour->Int->List (TTour × Int)
 | 0,_,_=>[]
 | f+1,r,dn=>if Yq d r then (r,dn)::(List.range d.RoTask.Jobs.length).flatMap (fun j=>if SG d r dn j then wT d f (qb d r j) (orE dn j) else []) else []
def IX (d:TDepot) (p:TTour × Int):List AV:=[(p.1.on d).av,.int .i64 p.2]
theorem Kw {N k:Nat} (hk:k<N):List.range N=List.range k++(k::(List.range (N-k-1)).map (fun i=>k+1+i)):=by
 have e:N=k+1+(N-k-1):=by omega
 have e2:List.range (k+1+(N-k-1))=List.range k++(k::(List.range (N-k-1)).map (fun i=>k+1+i)):=by
  rw [List.range_add,List.range_succ,List.append_assoc]
  simp
 rw [<- e] at e2
 exact e2
theorem Jp {α:Type} {g:Nat->List α} {a:α} {N k j:Nat} {x:α} (hk:k<N) (h:(g k)[j]?=some x):(a::(List.range N).flatMap g)[1+((List.range k).flatMap g).length+j]?=some x:=by
 rw [Kw hk,List.flatMap_append,List.flatMap_cons]
 have hj:=(List.getElem?_eq_some_iff.1 h).1
 rw [show 1+((List.range k).flatMap g).length+j=(((List.range k).flatMap g).length+j)+1 by omega,List.getElem?_cons_succ,List.getElem?_append_right (by omega),Nat.add_sub_cancel_left,List.getElem?_append_left hj]
 exact h
theorem SU {α:Type} {g:Nat->List α} {k:Nat}:((List.range (k+1)).flatMap g).length=((List.range k).flatMap g).length+(g k).length:=by
 rw [List.range_succ,List.flatMap_append,List.length_append]; simp
theorem uR {d:TDepot} {r:TTour} {k:Int} (h:qZ d r k=true):(qb d r k).last=k/\(qb d r k).stops.length=r.stops.length+1:=by
 unfold qb; rw [if_pos h]
 exact ⟨rfl,by show (r.stops++[_]).length=_; simp⟩
def MR (d:TDepot) (r:TTour) (n:Int) (S:SpecF) (_Fr:FreshF) (_Sq:SeqF) (l:Nat) (Y:Nat->List AV->Prop) (Sg:FuncId->List AV->List (List AV)->List (List AV)->Prop) (len:Nat):Prop :=
 ∃ n0,S 59 [AV.ref 0 0] [[AV.str (r.on d).RoLorry.Name,iN (r.on d).RoLorry.Lift,iN (r.on d).RoLorry.Room,iN (r.on d).RoLorry.From,iN (r.on d).RoLorry.Until,iN (r.on d).RoLorry.PerHour,.eptr d.cs (0:Nat),iN (r.on d).now,iN (r.on d).last,.slc 3 (List.map TRoStop.av (r.on d).stops),iN (r.on d).room,iN (r.on d).price,iN (r.on d).value]] (iN n0) [[AV.str (r.on d).RoLorry.Name,iN (r.on d).RoLorry.Lift,iN (r.on d).RoLorry.Room,iN (r.on d).RoLorry.From,iN (r.on d).RoLorry.Until,iN (r.on d).RoLorry.PerHour,.eptr d.cs (0:Nat),iN (r.on d).now,iN (r.on d).last,.slc 3 (List.map TRoStop.av (r.on d).stops),iN (r.on d).room,iN (r.on d).price,iN (r.on d).value]]/\(decide (n0>(r.on d).RoLorry.Until)=true->[[AV.yld l],[AV.eptr [AV.eptr d.cs (0:Nat),.undef,AV.fn (47:FuncId) [] []] (0:Nat)],[AV.fn (126:FuncId) [] [AV.ref 0 0,.ref 1 0,.ref 2 0]]]=[[AV.yld l],[AV.eptr [AV.eptr d.cs (0:Nat),.undef,AV.fn (47:FuncId) [] []] (0:Nat)],[AV.fn (126:FuncId) [] [AV.ref 0 0,.ref 1 0,.ref 2 0]]]/\(0:Nat)=len/\true=(some (0:Nat)).isSome)/\(decide (n0>(r.on d).RoLorry.Until)=false->(decide ((r.on d).room<(0:Int))=true->[[AV.yld l],[AV.eptr [AV.eptr d.cs (0:Nat),.undef,AV.fn (47:FuncId) [] []] (0:Nat)],[AV.fn (126:FuncId) [] [AV.ref 0 0,.ref 1 0,.ref 2 0]]]=[[AV.yld l],[AV.eptr [AV.eptr d.cs (0:Nat),.undef,AV.fn (47:FuncId) [] []] (0:Nat)],[AV.fn (126:FuncId) [] [AV.ref 0 0,.ref 1 0,.ref 2 0]]]/\(0:Nat)=len/\true=(some (0:Nat)).isSome)/\(decide ((r.on d).room<(0:Int))=false->l=l/\Y (0:Nat) [AV.agg [AV.str (r.on d).RoLorry.Name,iN (r.on d).RoLorry.Lift,iN (r.on d).RoLorry.Room,iN (r.on d).RoLorry.From,iN (r.on d).RoLorry.Until,iN (r.on d).RoLorry.PerHour,.eptr d.cs (0:Nat),iN (r.on d).now,iN (r.on d).last,.slc 3 (List.map TRoStop.av (r.on d).stops),iN (r.on d).room,iN (r.on d).price,iN (r.on d).value],iN n]/\(∃ (I9:Nat->Nat->List AV->Prop),(∃ m11,I9 m11 (1:Nat) [iN 0])/\∀ (m11 i12:Nat) (n13:Int),I9 m11 i12 [iN n13]->(decide (n13<(↑(List.map TRoJob.av d.RoTask.Jobs).length:Int))=true->∃ s17 n18 n19 n20 n21 es22 n23 b24 n25,((0:Int)<=n13/\(9:Nat)=(9:Nat)/\(List.map TRoJob.av d.RoTask.Jobs)[n13.toNat]?=some (.agg [AV.str s17,iN n18,iN n19,iN n20,iN n21,.slc 3 es22,iN n23,.bool b24,iN n25]))/\(0:Int)<=n13/\((IntKind.i64.wrap (↑(BitVec.ofInt (64:Nat) (n.fdiv ((2:Int) ^ min n13.toNat (64:Nat))) &&& BitVec.ofInt (64:Nat) (1:Int)).toNat:Int) == (0:Int))=true->(decide (n20<=(r.on d).RoLorry.Lift)=true->∃ b32 s33 n34 n35 n36 n37 n38,∃ v39:AV,∃ n40 n41 es42 n43 n44 n45,S 58 [AV.ref 0 0,iN n13] [[AV.str (r.on d).RoLorry.Name,iN (r.on d).RoLorry.Lift,iN (r.on d).RoLorry.Room,iN (r.on d).RoLorry.From,iN (r.on d).RoLorry.Until,iN (r.on d).RoLorry.PerHour,.eptr d.cs (0:Nat),iN (r.on d).now,iN (r.on d).last,.slc 3 (List.map TRoStop.av (r.on d).stops),iN (r.on d).room,iN (r.on d).price,iN (r.on d).value]] (.bool b32) [[AV.str s33,iN n34,iN n35,iN n36,iN n37,iN n38,.eptr d.cs (0:Nat),iN n40,iN n41,.slc 3 es42,iN n43,iN n44,iN n45]]/\(b32=true->(0:Int)<=n13/\∃ xs50,Sg (126:FuncId) [AV.agg [AV.str s33,iN n34,iN n35,iN n36,iN n37,iN n38,.eptr d.cs (0:Nat),iN n40,iN n41,.slc 3 es42,iN n43,iN n44,iN n45],iN (IntKind.i64.wrap (↑(BitVec.ofInt (64:Nat) n ||| BitVec.ofInt (64:Nat) (IntKind.i64.wrap ((1:Int)*(2:Int) ^ min n13.toNat (64:Nat)))).toNat:Int)),.ref 0 0,.ref 1 0,.ref 2 0] [[AV.yld l],[AV.eptr [AV.eptr d.cs (0:Nat),.undef,AV.fn (47:FuncId) [] []] (0:Nat)],[AV.fn (126:FuncId) [] [AV.ref 0 0,.ref 1 0,.ref 2 0]]] xs50/\(∀ (j53:Nat) (x54:List AV),xs50[j53]?=some x54->Y (i12+j53) x54)/\(((69:Nat)=(69:Nat)/\.agg [AV.str (r.on d).RoLorry.Name,iN (r.on d).RoLorry.Lift,iN (r.on d).RoLorry.Room,iN (r.on d).RoLorry.From,iN (r.on d).RoLorry.Until,iN (r.on d).RoLorry.PerHour,.eptr d.cs (0:Nat),iN (r.on d).now,iN (r.on d).last,.slc 3 (List.map TRoStop.av (r.on d).stops),iN (r.on d).room,iN (r.on d).price,iN (r.on d).value]=AV.agg [AV.str (r.on d).RoLorry.Name,iN (r.on d).RoLorry.Lift,iN (r.on d).RoLorry.Room,iN (r.on d).RoLorry.From,iN (r.on d).RoLorry.Until,iN (r.on d).RoLorry.PerHour,.eptr d.cs (0:Nat),iN (r.on d).now,iN (r.on d).last,.slc 3 (List.map TRoStop.av (r.on d).stops),iN (r.on d).room,iN (r.on d).price,iN (r.on d).value]/\iN n=iN n/\.ref 0 0=AV.ref 0 0/\.ref 1 0=AV.ref 1 0/\.ref 2 0=AV.ref 2 0/\.ref 85 0=AV.ref 85 0/\.bool (decide ((r.on d).room<(0:Int)))=AV.bool (decide ((r.on d).room<(0:Int)))/\AV.ff=AV.ff/\.slc 3 (List.map TRoJob.av d.RoTask.Jobs)=AV.slc 3 (List.map TRoJob.av d.RoTask.Jobs)/\iN (↑(List.map TRoJob.av d.RoTask.Jobs).length:Int)=iN (↑(List.map TRoJob.av d.RoTask.Jobs).length:Int)/\True)/\yi [AV.yld l]/\yi [AV.eptr [AV.eptr d.cs (0:Nat),.undef,AV.fn (47:FuncId) [] []] (0:Nat)]/\yi [AV.fn (126:FuncId) [] [AV.ref 0 0,.ref 1 0,.ref 2 0]]/\yi [AV.str (r.on d).RoLorry.Name,iN (r.on d).RoLorry.Lift,iN (r.on d).RoLorry.Room,iN (r.on d).RoLorry.From,iN (r.on d).RoLorry.Until,iN (r.on d).RoLorry.PerHour,.eptr d.cs (0:Nat),iN (r.on d).now,iN (r.on d).last,.slc 3 (List.map TRoStop.av (r.on d).stops),iN (r.on d).room,iN (r.on d).price,iN (r.on d).value]/\∃ k59,k59<m11/\I9 k59 (i12+xs50.length) [iN (IntKind.i64.wrap (n13+1))])/\[[AV.yld l],[AV.eptr [AV.eptr d.cs (0:Nat),.undef,AV.fn (47:FuncId) [] []] (0:Nat)],[AV.fn (126:FuncId) [] [AV.ref 0 0,.ref 1 0,.ref 2 0]]]=[[AV.yld l],[AV.eptr [AV.eptr d.cs (0:Nat),.undef,AV.fn (47:FuncId) [] []] (0:Nat)],[AV.fn (126:FuncId) [] [AV.ref 0 0,.ref 1 0,.ref 2 0]]]/\True/\false=(none:Option Nat).isSome)/\(b32=false->((69:Nat)=(69:Nat)/\.agg [AV.str (r.on d).RoLorry.Name,iN (r.on d).RoLorry.Lift,iN (r.on d).RoLorry.Room,iN (r.on d).RoLorry.From,iN (r.on d).RoLorry.Until,iN (r.on d).RoLorry.PerHour,.eptr d.cs (0:Nat),iN (r.on d).now,iN (r.on d).last,.slc 3 (List.map TRoStop.av (r.on d).stops),iN (r.on d).room,iN (r.on d).price,iN (r.on d).value]=AV.agg [AV.str (r.on d).RoLorry.Name,iN (r.on d).RoLorry.Lift,iN (r.on d).RoLorry.Room,iN (r.on d).RoLorry.From,iN (r.on d).RoLorry.Until,iN (r.on d).RoLorry.PerHour,.eptr d.cs (0:Nat),iN (r.on d).now,iN (r.on d).last,.slc 3 (List.map TRoStop.av (r.on d).stops),iN (r.on d).room,iN (r.on d).price,iN (r.on d).value]/\iN n=iN n/\.ref 0 0=AV.ref 0 0/\.ref 1 0=AV.ref 1 0/\.ref 2 0=AV.ref 2 0/\.ref 85 0=AV.ref 85 0/\.bool (decide ((r.on d).room<(0:Int)))=AV.bool (decide ((r.on d).room<(0:Int)))/\AV.ff=AV.ff/\.slc 3 (List.map TRoJob.av d.RoTask.Jobs)=AV.slc 3 (List.map TRoJob.av d.RoTask.Jobs)/\iN (↑(List.map TRoJob.av d.RoTask.Jobs).length:Int)=iN (↑(List.map TRoJob.av d.RoTask.Jobs).length:Int)/\True)/\yi [AV.yld l]/\yi [AV.eptr [AV.eptr d.cs (0:Nat),.undef,AV.fn (47:FuncId) [] []] (0:Nat)]/\yi [AV.fn (126:FuncId) [] [AV.ref 0 0,.ref 1 0,.ref 2 0]]/\yi [AV.str (r.on d).RoLorry.Name,iN (r.on d).RoLorry.Lift,iN (r.on d).RoLorry.Room,iN (r.on d).RoLorry.From,iN (r.on d).RoLorry.Until,iN (r.on d).RoLorry.PerHour,.eptr d.cs (0:Nat),iN (r.on d).now,iN (r.on d).last,.slc 3 (List.map TRoStop.av (r.on d).stops),iN (r.on d).room,iN (r.on d).price,iN (r.on d).value]/\∃ k54,k54<m11/\I9 k54 i12 [iN (IntKind.i64.wrap (n13+1))]))/\(decide (n20<=(r.on d).RoLorry.Lift)=false->((69:Nat)=(69:Nat)/\.agg [AV.str (r.on d).RoLorry.Name,iN (r.on d).RoLorry.Lift,iN (r.on d).RoLorry.Room,iN (r.on d).RoLorry.From,iN (r.on d).RoLorry.Until,iN (r.on d).RoLorry.PerHour,.eptr d.cs (0:Nat),iN (r.on d).now,iN (r.on d).last,.slc 3 (List.map TRoStop.av (r.on d).stops),iN (r.on d).room,iN (r.on d).price,iN (r.on d).value]=AV.agg [AV.str (r.on d).RoLorry.Name,iN (r.on d).RoLorry.Lift,iN (r.on d).RoLorry.Room,iN (r.on d).RoLorry.From,iN (r.on d).RoLorry.Until,iN (r.on d).RoLorry.PerHour,.eptr d.cs (0:Nat),iN (r.on d).now,iN (r.on d).last,.slc 3 (List.map TRoStop.av (r.on d).stops),iN (r.on d).room,iN (r.on d).price,iN (r.on d).value]/\iN n=iN n/\.ref 0 0=AV.ref 0 0/\.ref 1 0=AV.ref 1 0/\.ref 2 0=AV.ref 2 0/\.ref 85 0=AV.ref 85 0/\.bool (decide ((r.on d).room<(0:Int)))=AV.bool (decide ((r.on d).room<(0:Int)))/\AV.ff=AV.ff/\.slc 3 (List.map TRoJob.av d.RoTask.Jobs)=AV.slc 3 (List.map TRoJob.av d.RoTask.Jobs)/\iN (↑(List.map TRoJob.av d.RoTask.Jobs).length:Int)=iN (↑(List.map TRoJob.av d.RoTask.Jobs).length:Int)/\True)/\yi [AV.yld l]/\yi [AV.eptr [AV.eptr d.cs (0:Nat),.undef,AV.fn (47:FuncId) [] []] (0:Nat)]/\yi [AV.fn (126:FuncId) [] [AV.ref 0 0,.ref 1 0,.ref 2 0]]/\yi [AV.str (r.on d).RoLorry.Name,iN (r.on d).RoLorry.Lift,iN (r.on d).RoLorry.Room,iN (r.on d).RoLorry.From,iN (r.on d).RoLorry.Until,iN (r.on d).RoLorry.PerHour,.eptr d.cs (0:Nat),iN (r.on d).now,iN (r.on d).last,.slc 3 (List.map TRoStop.av (r.on d).stops),iN (r.on d).room,iN (r.on d).price,iN (r.on d).value]/\∃ k37,k37<m11/\I9 k37 i12 [iN (IntKind.i64.wrap (n13+1))]))/\((IntKind.i64.wrap (↑(BitVec.ofInt (64:Nat) (n.fdiv ((2:Int) ^ min n13.toNat (64:Nat))) &&& BitVec.ofInt (64:Nat) (1:Int)).toNat:Int) == (0:Int))=false->((69:Nat)=(69:Nat)/\.agg [AV.str (r.on d).RoLorry.Name,iN (r.on d).RoLorry.Lift,iN (r.on d).RoLorry.Room,iN (r.on d).RoLorry.From,iN (r.on d).RoLorry.Until,iN (r.on d).RoLorry.PerHour,.eptr d.cs (0:Nat),iN (r.on d).now,iN (r.on d).last,.slc 3 (List.map TRoStop.av (r.on d).stops),iN (r.on d).room,iN (r.on d).price,iN (r.on d).value]=AV.agg [AV.str (r.on d).RoLorry.Name,iN (r.on d).RoLorry.Lift,iN (r.on d).RoLorry.Room,iN (r.on d).RoLorry.From,iN (r.on d).RoLorry.Until,iN (r.on d).RoLorry.PerHour,.eptr d.cs (0:Nat),iN (r.on d).now,iN (r.on d).last,.slc 3 (List.map TRoStop.av (r.on d).stops),iN (r.on d).room,iN (r.on d).price,iN (r.on d).value]/\iN n=iN n/\.ref 0 0=AV.ref 0 0/\.ref 1 0=AV.ref 1 0/\.ref 2 0=AV.ref 2 0/\.ref 85 0=AV.ref 85 0/\.bool (decide ((r.on d).room<(0:Int)))=AV.bool (decide ((r.on d).room<(0:Int)))/\AV.ff=AV.ff/\.slc 3 (List.map TRoJob.av d.RoTask.Jobs)=AV.slc 3 (List.map TRoJob.av d.RoTask.Jobs)/\iN (↑(List.map TRoJob.av d.RoTask.Jobs).length:Int)=iN (↑(List.map TRoJob.av d.RoTask.Jobs).length:Int)/\True)/\yi [AV.yld l]/\yi [AV.eptr [AV.eptr d.cs (0:Nat),.undef,AV.fn (47:FuncId) [] []] (0:Nat)]/\yi [AV.fn (126:FuncId) [] [AV.ref 0 0,.ref 1 0,.ref 2 0]]/\yi [AV.str (r.on d).RoLorry.Name,iN (r.on d).RoLorry.Lift,iN (r.on d).RoLorry.Room,iN (r.on d).RoLorry.From,iN (r.on d).RoLorry.Until,iN (r.on d).RoLorry.PerHour,.eptr d.cs (0:Nat),iN (r.on d).now,iN (r.on d).last,.slc 3 (List.map TRoStop.av (r.on d).stops),iN (r.on d).room,iN (r.on d).price,iN (r.on d).value]/\∃ k35,k35<m11/\I9 k35 i12 [iN (IntKind.i64.wrap (n13+1))]))/\(decide (n13<(↑(List.map TRoJob.av d.RoTask.Jobs).length:Int))=false->[[AV.yld l],[AV.eptr [AV.eptr d.cs (0:Nat),.undef,AV.fn (47:FuncId) [] []] (0:Nat)],[AV.fn (126:FuncId) [] [AV.ref 0 0,.ref 1 0,.ref 2 0]]]=[[AV.yld l],[AV.eptr [AV.eptr d.cs (0:Nat),.undef,AV.fn (47:FuncId) [] []] (0:Nat)],[AV.fn (126:FuncId) [] [AV.ref 0 0,.ref 1 0,.ref 2 0]]]/\i12=len/\true=(some i12).isSome))/\[[AV.yld l],[AV.eptr [AV.eptr d.cs (0:Nat),.undef,AV.fn (47:FuncId) [] []] (0:Nat)],[AV.fn (126:FuncId) [] [AV.ref 0 0,.ref 1 0,.ref 2 0]]]=[[AV.yld l],[AV.eptr [AV.eptr d.cs (0:Nat),.undef,AV.fn (47:FuncId) [] []] (0:Nat)],[AV.fn (126:FuncId) [] [AV.ref 0 0,.ref 1 0,.ref 2 0]]]/\True/\false=(none:Option Nat).isSome))
theorem GP (d:TDepot) (r:TTour) (n:Int) (S:SpecF) (Fr:FreshF) (Sq:SeqF) (l:Nat) (Y:Nat->List AV->Prop) (Sg:FuncId->List AV->List (List AV)->List (List AV)->Prop) (len:Nat):Oz Tryz.prog (mkS Tryz.prog S Fr Sq ⟨[],[],[998000126,999000058,59],[],[]⟩ 0) 3 77 l Y Sg ⟨[0,1,2,3,4,5,7,8,9,10,20,25,33,34,35,36,67],[⟨6,[(35,.int .i64 0)],[],[],[],[],[]⟩],[],[]⟩ Tryz.f126 [(r.on d).av,.int .i64 n,.ref 0 0,.ref 1 0,.ref 2 0] [⟨191,false,[.yld l]⟩,⟨112,false,[.eptr [d.ptr,.undef,.fn 47 [] []] 0]⟩,⟨191,false,[.fn 126 [] [.ref 0 0,.ref 1 0,.ref 2 0]]⟩] len=MR d r n S Fr Sq l Y Sg len:=by kernel_rfl
theorem G2 (d:TDepot) (r:TTour) (n:Int) (l:Nat) (xs:List (List AV)) (h:MR d r n Sp Fo So l (fun i x=>xs[i]?=some x) (kc Tryz.prog l) xs.length):kc Tryz.prog l 126 [(r.on d).av,.int .i64 n,.ref 0 0,.ref 1 0,.ref 2 0] [[.yld l],[.eptr [d.ptr,.undef,.fn 47 [] []] 0],[.fn 126 [] [.ref 0 0,.ref 1 0,.ref 2 0]]] xs :=
 Hp (boxes:=[⟨191,false,[.yld l]⟩,⟨112,false,[.eptr [d.ptr,.undef,.fn 47 [] []] 0]⟩,⟨191,false,[.fn 126 [] [.ref 0 0,.ref 1 0,.ref 2 0]]⟩]) mixed (by exact trivial) Tryz.func126 Tryz.call126 rfl rfl rfl (GP d r n Sp Fo So l _ _ _) h
theorem LO (d:TDepot) (hd:WN d) (l:Nat):∀ (f:Nat) (r:TTour) (n:Int),0<=n->n<64->SL n<f->r.last<d.RoTask.Jobs.length->r.stops.length+SL n<=1000 ->
  kc Tryz.prog l 126 [(r.on d).av,.int .i64 n,.ref 0 0,.ref 1 0,.ref 2 0] [[.yld l],[.eptr [d.ptr,.undef,.fn 47 [] []] 0],[.fn 126 [] [.ref 0 0,.ref 1 0,.ref 2 0]]] ((wT d f r n).map (IX d)):=by
 intro f
 induction f with
 | zero=>intro r n _ _ h; omega
 | succ f ih =>
  intro r n h0 h1 hc hl hst
  have hjl:=hd.jl
  refine G2 d r n l _ ?_
  unfold MR
  refine ⟨_,c59 d r hl,fun g=>?_,fun g=>⟨fun g2=>?_,fun g2=>?_⟩⟩
  ·have g:decide (wm d r>r.RoLorry.Until)=true:=g
   have hx:wT d (f+1) r n=[]:=by unfold wT Yq; rw [g]; rfl
   rw [hx]; exact ⟨rfl,rfl,rfl⟩
  ·have g2:decide (r.room<0)=true:=g2
   have hx:wT d (f+1) r n=[]:=by unfold wT Yq; rw [g2,Bool.not_true,Bool.and_false]; rfl
   rw [hx]; exact ⟨rfl,rfl,rfl⟩
  ·have g:decide (wm d r>r.RoLorry.Until)=false:=g
   have g2:decide (r.room<0)=false:=g2
   let G:Nat->List (TTour × Int):=fun j=>if SG d r n j then wT d f (qb d r j) (orE n j) else []
   have hx:wT d (f+1) r n=(r,n)::(List.range d.RoTask.Jobs.length).flatMap G:=by
    show (if Yq d r then _ else _)=_
    rw [if_pos (by unfold Yq; rw [g,g2]; rfl)]
   rw [hx]
   refine ⟨rfl,rfl,?_,rfl,trivial,rfl⟩
   refine ⟨fun m i vs=>∃ k:Nat,vs=[.int .i64 k]/\k<=d.RoTask.Jobs.length/\m=d.RoTask.Jobs.length-k/\i=1+((List.range k).flatMap G).length,⟨_,0,rfl,by omega,rfl,rfl⟩,?_⟩
   rintro m i n13 ⟨k,hk,hle,rfl,rfl⟩
   cases hk
   rw [List.length_map]
   refine ⟨fun h3=>?_,fun h3=>?_⟩
   ·have h3:k<d.RoTask.Jobs.length:=by have:=zt_ h3; omega
    have hj:=(wZ (t:=d.RoTask) (k:=(k:Int)) (by omega) (by omega)).1
    have nextF:G k=[]->∃ k59,k59<d.RoTask.Jobs.length-k/\∃ k':Nat,[AV.int .i64 (IntKind.i64.wrap ((k:Int)+1))]=[.int .i64 k']/\k'<=d.RoTask.Jobs.length/\k59=d.RoTask.Jobs.length-k'/\1+((List.range k).flatMap G).length=1+((List.range k').flatMap G).length:=fun he =>
     ⟨_,(by omega:d.RoTask.Jobs.length-(k+1)<d.RoTask.Jobs.length-k),k+1,by rw [yq (by omega)],by omega,rfl,by rw [SU,he]; rfl⟩
    refine ⟨_,_,_,_,_,_,_,_,_,⟨by omega,by trivial,hj⟩,by omega,fun f1=>⟨fun f2=>?_,fun f2=>?_⟩,fun f1=>?_⟩
    ·have f1:Vq n k=true:=f1
     have f2:decide ((yZ d.RoTask k).Height<=r.RoLorry.Lift)=true:=f2
     obtain ⟨b1,b2,b3⟩:=OC h0 h1 (by omega) f1
     refine ⟨_,_,_,_,_,_,_,.undef,_,_,_,_,_,_,c58 d hd r (k:Int) (by omega) (by omega) hl (by omega),fun f3=>?_,fun f3=>?_⟩
     ·have hcan:SG d r n k=true:=by unfold SG; rw [f1,f2,f3]; rfl
      have hG:G k=wT d f (qb d r k) (orE n k):=if_pos hcan
      obtain ⟨v1,v2⟩:=uR f3
      refine ⟨by omega,(G k).map (IX d),?_,fun j x hjx=>?_,?_,rfl,trivial,rfl⟩
      ·rw [hG]
       exact ih (qb d r k) (orE n k) b1 b2 (by omega) (by rw [v1]; omega) (by rw [v2]; omega)
      ·rw [List.getElem?_map] at hjx ⊢
       obtain ⟨q,hq,rfl⟩:=Option.map_eq_some_iff.1 hjx
       rw [Jp h3 hq]; rfl
      ·repeat (first | refine And.intro rfl ?_ | refine And.intro trivial ?_ | refine And.intro (by repeat (first | exact trivial | refine And.intro rfl ?_)) ?_)
       exact ⟨_,(by omega:d.RoTask.Jobs.length-(k+1)<d.RoTask.Jobs.length-k),k+1,by rw [yq (by omega)],by omega,rfl,by rw [SU,List.length_map]; omega⟩
     ·have hG:G k=[]:=if_neg (by unfold SG; rw [f3]; simp)
      repeat (first | refine And.intro rfl ?_ | refine And.intro trivial ?_ | refine And.intro (by repeat (first | exact trivial | refine And.intro rfl ?_)) ?_)
      exact nextF hG
    ·have f2:decide ((yZ d.RoTask k).Height<=r.RoLorry.Lift)=false:=f2
     have hG:G k=[]:=if_neg (by unfold SG; rw [f2]; simp)
     repeat (first | refine And.intro rfl ?_ | refine And.intro trivial ?_ | refine And.intro (by repeat (first | exact trivial | refine And.intro rfl ?_)) ?_)
     exact nextF hG
    ·have f1:Vq n k=false:=f1
     have hG:G k=[]:=if_neg (by unfold SG; rw [f1]; simp)
     repeat (first | refine And.intro rfl ?_ | refine And.intro trivial ?_ | refine And.intro (by repeat (first | exact trivial | refine And.intro rfl ?_)) ?_)
     exact nextF hG
   ·have h3:k=d.RoTask.Jobs.length:=by have:=zf_ h3; omega
    subst h3
    refine ⟨rfl,?_,rfl⟩
    simp only [List.length_map,List.length_cons]; omega
def MS (d:TDepot) (k n:Int) (S:SpecF) (_Fr:FreshF) (_Sq:SeqF) (l:Nat) (Y:Nat->List AV->Prop) (Sg:FuncId->List AV->List (List AV)->List (List AV)->Prop) (len:Nat):Prop :=
 ∃ s0 n1 n2 n3 n4 n5 n6 n7 n8 n9 n10 n11 n12 n13 n14 es15 es16 es17 es18 es19 n20 n21 es22 n23 n24 n25,S 57 [AV.eptr d.cs (0:Nat),iN k] [] (.agg [AV.str s0,iN n1,iN n2,iN n3,iN n4,iN n5,.eptr [iN n6,iN n7,iN n8,iN n9,iN n10,iN n11,iN n12,iN n13,iN n14,.slc 3 es15,.slc 3 es16,.slc 3 es17,.slc 3 es18,.slc 3 es19] (0:Nat),iN n20,iN n21,.slc 3 es22,iN n23,iN n24,iN n25]) []/\∃ xs27,Sg (126:Nat) [AV.agg [AV.str s0,iN n1,iN n2,iN n3,iN n4,iN n5,.eptr [iN n6,iN n7,iN n8,iN n9,iN n10,iN n11,iN n12,iN n13,iN n14,.slc 3 es15,.slc 3 es16,.slc 3 es17,.slc 3 es18,.slc 3 es19] (0:Nat),iN n20,iN n21,.slc 3 es22,iN n23,iN n24,iN n25],iN n,.ref 0 0,.ref 1 0,.ref 2 0] [[AV.yld l],[AV.eptr [AV.eptr d.cs (0:Nat),.undef,AV.fn (47:FuncId) [] []] (0:Nat)],[AV.fn (126:Nat) [] [AV.ref 0 0,.ref 1 0,.ref 2 0]]] xs27/\(∀ (j30:Nat) (x31:List AV),xs27[j30]?=some x31->Y ((0:Nat)+j30) x31)/\(0:Nat)+xs27.length=len/\True
theorem GQ (d:TDepot) (k:Int) (n:Int) (S:SpecF) (Fr:FreshF) (Sq:SeqF) (l:Nat) (Y:Nat->List AV->Prop) (Sg:FuncId->List AV->List (List AV)->List (List AV)->Prop) (len:Nat):OA Tryz.prog (mkS Tryz.prog S Fr Sq ⟨[],[(57,[.agg [.str default,.int .i64 0,.int .i64 0,.int .i64 0,.int .i64 0,.int .i64 0,.eptr [.int .i64 0,.int .i64 0,.int .i64 0,.int .i64 0,.int .i64 0,.int .i64 0,.int .i64 0,.int .i64 0,.int .i64 0,.slc 3 [],.slc 3 [],.slc 3 [],.slc 3 [],.slc 3 []] 0,.int .i64 0,.int .i64 0,.slc 3 [],.int .i64 0,.int .i64 0,.int .i64 0]])],[998000126],[],[]⟩ 0) 3 24 l Y Sg ⟨[0,1,2,3,4,5],[],[],[]⟩ Tryz.f125 [.ref 0 0,.ref 1 0,.ref 2 0] [⟨112,false,[.eptr [d.ptr,.undef,.fn 47 [] []] 0]⟩,⟨3,false,[.int .i64 k]⟩,⟨3,false,[.int .i64 n]⟩] len=MS d k n S Fr Sq l Y Sg len:=by kernel_rfl
theorem G3 (d:TDepot) (k:Int) (n:Int) (xs:List (List AV)) (h:∀ l,MS d k n Sp Fo So l (fun i x=>xs[i]?=some x) (kc Tryz.prog l) xs.length):vd Tryz.prog 125 [.ref 0 0,.ref 1 0,.ref 2 0] [[.eptr [d.ptr,.undef,.fn 47 [] []] 0],[.int .i64 k],[.int .i64 n]] xs :=
 Hr (boxes:=[⟨112,false,[.eptr [d.ptr,.undef,.fn 47 [] []] 0]⟩,⟨3,false,[.int .i64 k]⟩,⟨3,false,[.int .i64 n]⟩]) mixed (by exact trivial) Tryz.func125 Tryz.call125 rfl rfl rfl rfl (fun l=>GQ d k n Sp Fo So l _ _ _) h
theorem VT (d:TDepot) (hd:WN d) (k n:Int) (hk0:0<=k) (hk:k<d.RoTask.Lorries.length) (h0:0<=n) (h1:n<64) :
  vd Tryz.prog 125 [.ref 0 0,.ref 1 0,.ref 2 0] [[.eptr [d.ptr,.undef,.fn 47 [] []] 0],[.int .i64 k],[.int .i64 n]] ((wT d 7 (yI d k) n).map (IX d)):=by
 refine G3 d k n _ fun l=>?_
 unfold MS
 have hc:SL n<=6:=by unfold SL; exact Nat.le_trans (List.countP_le_length ..) (by simp)
 refine ⟨_,_,_,_,_,_,_,_,_,_,_,_,_,_,_,_,_,_,_,_,_,_,_,_,_,_,c57 d k hk0 hk,_,LO d hd l 7 (yI d k) n h0 h1 (by omega) (by show (-1:Int)<_; omega) (by show 0+_<=_; omega),fun j x hx=>?_,by omega,trivial⟩
 rw [Nat.zero_add]; exact hx
end Go.Proofs.YtdeeekgohhkdbaaGreatDoor

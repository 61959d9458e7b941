/- The search for the best plan: what it finds, and what it keeps of it. The search for the best plan, walked. The search for the best plan, walked. -/
import Derived.Test.YtkojpnkknehhmaaGreatDoorSa
namespace Go.Proofs.YtkojpnkknehhmaaGreatDoor
open Go.IntKind (wrap i64 u64)
def yo (r:TTour):List Int:=r.stops.map (·.Job)
def ka (a b:TTail):Bool:=decide (a.value>b.value) || (a.value == b.value && decide (a.cost<b.cost))
def qo (d:TDepot) (r:TTour) (rest:TTail):TTail:=⟨yo r::rest.plan,wrap i64 (r.value+rest.value),wrap i64 (OZ d r+rest.cost)⟩
def ky (b t:TTail):TTail:=if b.plan=[] then t else if ka t b then t else b
def yC (d:TDepot):Nat->Nat->Int->TTail
 |0,_,_=>TTail.zero
 |k+1,l,n=>(wH d 7 (jV d l) n).foldl (fun b p=>ky b (qo d p.1 (yC d k (l+1) p.2))) TTail.zero
def jf (d:TDepot):Nat->Nat->Int->List (Nat × Int)->List (Nat × Int)
 |0,_,_,L=>L
 |k+1,l,n,L=>if (l,n)∈L then L else (wH d 7 (jV d l) n).foldl (fun L p=>jf d k (l+1) p.2 L) L++[(l,n)]
def Th (d:TDepot) (l:Nat) (n:Int):TTail:=yC d (d.RoTask.Lorries.length-l) l n
def Uf (q:Nat × Int):AV:=.agg [.int .i64 q.1,.int .i64 q.2]
def xO (d:TDepot) (q:Nat × Int):AV:=.agg [Uf q,(Th d q.1 q.2).av]
theorem Kc (a b:Int) (ha:(Lit.int .i64 a).wf=true) (hb:(Lit.int .i64 b).wf=true):∃l,keyOf Tryz.prog 32 (.agg #[.int .i64 a,.int .i64 b])=some l:=by
 have hu:Tryz.prog.underlying 32=some (.array 2 3):=by kernel_rfl
 have h3:Tryz.prog.underlying 3=some (.int .i64):=by kernel_rfl
 have c2:Tryz.prog.cellsOf 32=2:=by kernel_rfl
 have c1:Tryz.prog.cellsOf 3=1:=by kernel_rfl
 have hk:Tryz.prog.keyType 32=true:=by kernel_rfl
 have hf:(Value.agg #[.int .i64 a,.int .i64 b]).formed Tryz.prog 32=true:=by kernel_rfl
 obtain ⟨e,he⟩:∃e,Tryz.prog.types.size=e+1:=⟨Tryz.prog.types.size-1,by kernel_rfl⟩;unfold keyOf;rw[hu];dsimp only;rw[hk,hf,he];have hl:∀n:Int,(Lit.int .i64 n).wf=true->Tryz.prog.keyLits (e+1) 3 [.int .i64 n]=some [.int .i64 n]:=fun n hn=>by
  unfold Program.keyLits;rw[h3];simp[hn]
 have:Tryz.prog.keyLits (e+1+1) 32 (Value.agg #[.int .i64 a,.int .i64 b]).cells.toList=some [.int .i64 a,.int .i64 b]:=by
  show Tryz.prog.keyLits (e+1+1) 32 [.int .i64 a,.int .i64 b]=_;unfold Program.keyLits;rw[hu];simp[c2,c1,List.range_succ,hl a ha,hl b hb]
 rw[this];exact⟨_,rfl⟩
theorem F4 (c:Value):Pr Tryz.prog 32 c=(Tryz.prog.keyTypeAt 2 32=true/\Tryz.prog.tiled 2 32=true/\∃l,keyOf Tryz.prog 32 c=some l):=by kernel_rfl
theorem HK (a b:Int) (ha:(Lit.int .i64 a).wf=true) (hb:(Lit.int .i64 b).wf=true):xn Tryz.prog 32 (.agg [.int .i64 a,.int .i64 b]):=⟨.agg #[.int .i64 a,.int .i64 b],rfl,by rw[F4];exact⟨by kernel_rfl,by kernel_rfl,Kc a b ha hb⟩⟩
def vd (q:Nat × Int):Prop:=q.1<=1000/\0<=q.2/\q.2<64
theorem Pp {n:Int} (h0:0<=n) (h1:n<=1000000):(Lit.int .i64 n).wf=true:=by
 simp[Lit.wf,IntKind.min,IntKind.max,IntKind.signed,IntKind.bits];omega
theorem vG {q:Nat × Int} (h:vd q):xn Tryz.prog 32 (Uf q):=HK _ _ (Pp (by omega) (by have:=h.1;omega)) (Pp h.2.1 (by have:=h.2.2;omega))
theorem Tz (d:TDepot) {L:List (Nat × Int)} (h:∀q∈L,vd q):kK Tryz.prog 32 (L.map (xO d)):=by
 intro x hx;obtain ⟨q,hq,rfl⟩:=List.mem_map.1 hx;exact⟨_,_,rfl,vG (h q hq)⟩
theorem O8 {d:TDepot} {L:List (Nat × Int)} {q:Nat × Int} {j:Nat} {v:AV} (h:(L.map (xO d))[j]? = some (.agg [Uf q,v])):L[j]? = some q/\v=(Th d q.1 q.2).av:=by
 rw[List.getElem?_map] at h;obtain ⟨q',h1,h2⟩:=Option.map_eq_some_iff.1 h;simp only[xO,Uf,AV.agg.injEq,List.cons.injEq,and_true,AV.int.injEq,true_and] at h2;obtain ⟨⟨h3,h4⟩,h2⟩:=h2;have:q'=q:=Prod.ext (by omega) h4;subst this;exact⟨h1,h2.symm⟩
theorem WU {d:TDepot} {L:List (Nat × Int)} {q:Nat × Int} {v:AV} (h:AV.agg [Uf q,v]∈L.map (xO d)):q∈L:=by
 obtain ⟨j,hj⟩:=List.mem_iff_getElem?.1 h;exact List.mem_of_getElem? (O8 hj).1
theorem F6 {d:TDepot} {L:List (Nat × Int)} {q:Nat × Int} (hc:q∉L):xJ (L.map (xO d)) (Uf q) (Th d q.1 q.2).av ((L++[q]).map (xO d)) :=
 .inr ⟨fun v' hm=>hc (WU hm),by rw[List.map_append];rfl⟩
theorem F5 {d:TDepot} {L:List (Nat × Int)} {q:Nat × Int} (h:L.Nodup) (hc:q∈L) (z:AV):v8 z (L.map (xO d)) (Uf q) true (Th d q.1 q.2).av:=by
 obtain ⟨i,hi⟩:=List.mem_iff_getElem?.1 hc;have hl:i<L.length:=(List.getElem?_eq_some_iff.1 hi).1;exact⟨i,by rw[List.getElem?_map,hi];rfl,fun j v' hj=>((List.getElem?_inj hl h).1 (by rw[hi,(O8 hj).1])).symm⟩
theorem Ko {d:TDepot} {L:List (Nat × Int)} {q:Nat × Int} (hc:q∉L) (z:AV):v8 z (L.map (xO d)) (Uf q) false z :=
 ⟨fun _v' hm=>hc (WU hm),rfl⟩
theorem NG {d:TDepot}:∀(k l:Nat) (n:Int) (L:List (Nat × Int)) (q:Nat × Int),q∈jf d k l n L->q∈L\/l<=q.1:=by
 intro k;induction k with
 |zero=>intro l n L q h;exact .inl h
 |succ k ih =>
  intro l n L q h;unfold jf at h;split at h
  ·exact .inl h
  ·rcases List.mem_append.1 h with h | h
   ·have key:∀(G:List (TTour × Int)) (L:List (Nat × Int)),q∈G.foldl (fun L p=>jf d k (l+1) p.2 L) L->q∈L\/l<=q.1:=by
     intro G;induction G with
     |nil=>intro L h;exact .inl h
     |cons p r ihr =>
      intro L h;rcases ihr _ h with h | h
      ·exact(ih _ _ _ _ h).imp id fun h=>by omega
      ·exact .inr h
    exact key _ _ h
   ·rw[List.mem_singleton] at h;subst h;exact .inr (Nat.le_refl _)
theorem NY {d:TDepot} {k l:Nat} {q:Nat × Int}:∀(G:List (TTour × Int)) (L:List (Nat × Int)),q∈G.foldl (fun L p=>jf d k (l+1) p.2 L) L->q∈L\/l+1<=q.1:=by
 intro G;induction G with
 |nil=>intro L h;exact .inl h
 |cons p r ihr =>
  intro L h;rcases ihr _ h with h | h
  ·exact NG _ _ _ _ _ h
  ·exact .inr h
theorem XG {d:TDepot} {k l:Nat} {n:Int} {G:List (TTour × Int)} {L:List (Nat × Int)} (h:(l,n)∉L):(l,n)∉G.foldl (fun L p=>jf d k (l+1) p.2 L) L:=fun hm =>
 (NY G L hm).elim h fun h=>by simp at h;omega
theorem Qb {d:TDepot}:∀(k l:Nat) (n:Int) (L:List (Nat × Int)),L.Nodup->(jf d k l n L).Nodup:=by
 intro k;induction k with
 |zero=>intro l n L h;exact h
 |succ k ih =>
  intro l n L h;unfold jf;split
  ·exact h
  ·rename_i hc;have key:∀(G:List (TTour × Int)) (L:List (Nat × Int)),L.Nodup->(G.foldl (fun L p=>jf d k (l+1) p.2 L) L).Nodup:=by
    intro G;induction G with
    |nil=>intro L h;exact h
    |cons p r ihr=>intro L h;exact ihr _ (ih _ _ _ h)
   refine List.nodup_append.2 ⟨key _ _ h,by simp,fun a ha b hb=>?_⟩;rw[List.mem_singleton] at hb;subst hb;rintro rfl;exact XG hc ha
theorem X8 {d:TDepot} {k l:Nat}:∀(G:List (TTour × Int)) (L:List (Nat × Int)),L.Nodup->(G.foldl (fun L p=>jf d k (l+1) p.2 L) L).Nodup:=by
 intro G;induction G with
 |nil=>intro L h;exact h
 |cons p r ihr=>intro L h;exact ihr _ (Qb _ _ _ _ h)
theorem Xa {d:TDepot}:∀(f:Nat) (r:TTour) (n:Int),0<=n->n<64->d.RoTask.Jobs.length<=6->r.last<d.RoTask.Jobs.length->∀p∈wH d f r n,p.1.last<d.RoTask.Jobs.length/\p.1.stops.length<=r.stops.length+f/\0<=p.2/\p.2<64:=by
 intro f;induction f with
 |zero=>intro r n _ _ _ _ p h;cases h
 |succ f ih =>
  intro r n h0 h1 hj hl p h;unfold wH at h;split at h
  ·rcases List.mem_cons.1 h with rfl | h
   ·exact⟨hl,by simp,h0,h1⟩
   ·obtain ⟨j,hj',h⟩:=List.mem_flatMap.1 h;rw[List.mem_range] at hj';split at h
    ·rename_i hc;unfold Qn at hc;simp only[Bool.and_eq_true] at hc;obtain ⟨b1,b2,b3⟩:=OU h0 h1 (by omega) hc.1;obtain ⟨v1,v2⟩:=uL hc.2.2;have:=ih _ _ b1 b2 hj (by rw[v1];omega) p h;rw[v2] at this;exact⟨this.1,by omega,this.2.2⟩
    ·cases h
  ·cases h
theorem JU {b t:TTail} (h:t.plan≠[]):(ky b t).plan≠[]:=by
 unfold ky;split
 ·exact h
 ·rename_i h2;split
  ·exact h
  ·exact h2
theorem Nb {d:TDepot} {k l:Nat}:∀(G:List (TTour × Int)) (b:TTail),b.plan≠[]\/G≠[]->(G.foldl (fun b p=>ky b (qo d p.1 (yC d k l p.2))) b).plan≠[]:=by
 intro G;induction G with
 |nil=>intro b h;exact h.elim id fun h=>absurd rfl h
 |cons p r ih=>intro b _;exact ih _ (.inl (JU (by simp[qo])))
theorem KB {b t:TTail} {k:Nat} (h:t.plan.length<=k) (h':b.plan.length<=k):(ky b t).plan.length<=k:=by
 unfold ky;split
 ·exact h
 ·split
  ·exact h
  ·exact h'
theorem xV {d:TDepot}:∀(k l:Nat) (n:Int),(yC d k l n).plan.length<=k:=by
 intro k;induction k with
 |zero=>intro l n;exact Nat.le_refl _
 |succ k ih =>
  intro l n;have key:∀(G:List (TTour × Int)) (b:TTail),b.plan.length<=k+1->(G.foldl (fun b p=>ky b (qo d p.1 (yC d k (l+1) p.2))) b).plan.length<=k+1:=by
   intro G;induction G with
   |nil=>intro b h;exact h
   |cons p r ihr =>
    intro b h;refine ihr _ ?_;have hj:(qo d p.1 (yC d k (l+1) p.2)).plan.length<=k+1:=by
     have:=ih (l+1) p.2;simp only[qo,List.length_cons];omega
    exact KB hj h
  exact key _ _ (Nat.zero_le _)
theorem j7 {α β:Type} {f:β->α->β} {b:β} {G:List α} {i:Nat} {p:α} (h:G[i]? = some p):(G.take (i+1)).foldl f b=f ((G.take i).foldl f b) p:=by
 rw[List.take_add_one,h,List.foldl_append];rfl
theorem uu:∀ {l:List AV},(∀v∈l,v.cells=[v])->l.flatMap AV.cells=l
 |[],_=>rfl
 |x::r,h=>by rw[List.flatMap_cons,uu fun v hv=>h v (List.mem_cons_of_mem _ hv),h x List.mem_cons_self];rfl
def yn (l:List Int):List AV:=l.map (AV.int .i64)
def yP (l:List (List Int)):List AV:=l.map fun x=>.slc 3 (yn x)
theorem qq {l:List Int}:∀v∈yn l,v.cells=[v]:=fun v hv=>by
 obtain ⟨x,_,rfl⟩:=List.mem_map.1 hv;rfl
theorem xd {l:List (List Int)}:∀v∈yP l,v.cells=[v]:=fun v hv=>by
 obtain ⟨x,_,rfl⟩:=List.mem_map.1 hv;rfl
theorem va (l:List Int):yv (yn l)=true:=List.all_eq_true.2 fun v hv=>by
 obtain ⟨x,_,rfl⟩:=List.mem_map.1 hv;rfl
theorem XU (l:List (List Int)):yv (yP l)=true:=List.all_eq_true.2 fun v hv=>by
 obtain ⟨x,_,rfl⟩:=List.mem_map.1 hv;rfl
theorem Oh {l:List AV} (h:∀v∈l,v.cells=[v]):yy 1 l:=fun v hv=>by rw[h v hv];rfl
theorem IZ:yf Tryz.prog 3=false:=by kernel_rfl
theorem Ir:yf Tryz.prog 44=false:=by kernel_rfl
theorem Sn {l:List AV} (h:∀v∈l,v.cells=[v]):jS 1 false l:=fun v hv=>by
 rw[if_neg Bool.false_ne_true];exact h v hv
theorem Ya (J:List Int) (R:List (List Int)) (hR:R.length<=1000) :
  yy 1 (yP R)/\(1=1/\(1+(yP R).length+512)*121<=1125899906842624/\yv (List.flatMap AV.cells (yP R))=true/\yv [AV.slc 3 (yn J)]=true) /\
   (0+(1+(yP R).length)*1<=(AV.slc 3 (yn J)::List.flatMap AV.cells (yP R)).length/\yv (AV.slc 3 (yn J)::List.flatMap AV.cells (yP R))=true) /\
   ((yP (J::R)).length=1+(yP R).length/\List.flatMap AV.cells (yP (J::R))=AV.slc 3 (yn J)::List.flatMap AV.cells (yP R)/\jS 1 (yf Tryz.prog 44) (yP (J::R))):=by
 have hl:(yP R).length=R.length:=List.length_map ..;rw[uu xd];refine⟨Oh xd,⟨rfl,by omega,XU R,rfl⟩,⟨by rw[List.length_cons];omega,?_⟩,by rw[hl];simp[yP];omega,?_,?_⟩
 ·exact XU (J::R)
 ·rw[uu xd];rfl
 ·rw[Ir];exact Sn xd
theorem vm (J:List Int) (hJ:J.length<=1000) (x:Int) :
  yy 1 [AV.int .i64 x]/\((List.flatMap AV.cells (yn J)).length=(yn J).length*1/\((yn J).length+1+512)*41<=1125899906842624/\yv [AV.int .i64 x]=true/\yv (List.flatMap AV.cells (yn J))=true):=by
 have hl:(yn J).length=J.length:=List.length_map ..;rw[uu qq];exact⟨fun v hv=>by rw[List.mem_singleton.1 hv];rfl,by omega,by omega,rfl,va J⟩
theorem qL (J:List Int):(0+(yn J).length*1<=(List.flatMap AV.cells (yn J)).length/\yv (List.flatMap AV.cells (yn J))=true) /\
  ((yn J).length=(yn J).length/\List.flatMap AV.cells (yn J)=List.drop 0 (List.flatMap AV.cells (yn J))/\jS 1 (yf Tryz.prog 3) (yn J)):=by
 rw[uu qq];refine⟨⟨by omega,va J⟩,rfl,rfl,?_⟩;rw[IZ];exact Sn qq
theorem Lh {d:TDepot} (hj:d.RoTask.Jobs.length<=6):∀(k l:Nat) (n:Int) (L:List (Nat × Int)),l+k<=1000->0<=n->n<64->(∀q∈L,vd q)->∀q∈jf d k l n L,vd q:=by
 intro k;induction k with
 |zero=>intro l n L _ _ _ h;exact h
 |succ k ih =>
  intro l n L hl h0 h1 h;unfold jf;split
  ·exact h
  ·have key:∀(G:List (TTour × Int)) (L:List (Nat × Int)),(∀p∈G,0<=p.2/\p.2<64)->(∀q∈L,vd q)->∀q∈G.foldl (fun L p=>jf d k (l+1) p.2 L) L,vd q:=by
    intro G;induction G with
    |nil=>intro L _ h;exact h
    |cons p r ihr=>intro L hp h;exact ihr _ (fun p' hp'=>hp p' (List.mem_cons_of_mem _ hp')) (ih _ _ _ (by omega) (hp p List.mem_cons_self).1 (hp p List.mem_cons_self).2 h)
   intro q hq;rcases List.mem_append.1 hq with hq | hq
   ·exact key _ _ (fun p hp=>(Xa 7 _ _ h0 h1 hj (by show (-1:Int)<_;omega) p hp).2.2) h q hq
   ·rw[List.mem_singleton.1 hq];exact⟨by show l<=1000;omega,h0,h1⟩
theorem QA {d:TDepot} (hj:d.RoTask.Jobs.length<=6) {k l:Nat} (hl:l+1+k<=1000):∀(G:List (TTour × Int)) (L:List (Nat × Int)),(∀p∈G,0<=p.2/\p.2<64)->(∀q∈L,vd q)->∀q∈G.foldl (fun L p=>jf d k (l+1) p.2 L) L,vd q:=by
 intro G;induction G with
 |nil=>intro L _ h;exact h
 |cons p r ihr=>intro L hp h;exact ihr _ (fun p' hp'=>hp p' (List.mem_cons_of_mem _ hp')) (Lh hj _ _ _ _ hl (hp p List.mem_cons_self).1 (hp p List.mem_cons_self).2 h)
theorem vl {S:List TRoStop} {j:Nat} (h:j<S.length):(S.map TRoStop.av)[((j:Nat):Int).toNat]? = some (S[j]).av:=by
 rw[Int.toNat_natCast,List.getElem?_map,List.getElem?_eq_getElem h];rfl
theorem wT {r:TTour} {j:Nat} (h:j<r.stops.length):(yn ((yo r).take (j+1))).length=(yn ((yo r).take j)).length+1 /\
  List.flatMap AV.cells (yn ((yo r).take (j+1)))=List.flatMap AV.cells (yn ((yo r).take j))++[.int .i64 (r.stops[j]).Job]:=by
 have:yn ((yo r).take (j+1))=yn ((yo r).take j)++[.int .i64 (r.stops[j]).Job]:=by
  unfold yn yo;rw[List.take_add_one,List.getElem?_map,List.getElem?_eq_getElem h,List.map_append];rfl
 rw[this,List.flatMap_append];exact⟨by rw[List.length_append];rfl,rfl⟩
theorem xB {b t:TTail} (hb:b.plan≠[]) (h:ka t b=true):ky b t=t:=by unfold ky;rw[if_neg hb,if_pos h]
theorem Xf {b t:TTail} (hb:b.plan≠[]) (h:ka t b=false):ky b t=b:=by unfold ky;rw[if_neg hb,if_neg (by simp[h])]
abbrev OM (d:TDepot) (l n:Int) (p0_ p1_ p2_:List AV) (p3_ p4_:Int) (p5_:AV) (p6_:List AV) (p7_ p8_:Int) (p9_:ByteArray) (p10_ p11_ p12_ p13_ p14_ p15_ p16_ p17_ p18_ p19_ p20_ p21_ p22_ p23_:Int) (p24_ p25_ p26_ p27_ p28_:List AV) (p29_ p30_ p31_ p32_ p33_:Int) (p34_:List AV) (p35_ p36_ p37_:Int) (p38_:Nat->List AV->Prop) (p39_:Nat):Prop :=
 ∃(I64:Nat->List AV->Prop),(∃m66,I64 m66 [iN 0,.slc 3 []])/\∀(m66:Nat) (n67:Int) (es68:List AV),I64 m66 [iN n67,.slc 3 es68]->(decide (n67<(↑p0_.length:Int))=true->∃n72 n73 n74 n75,((0:Int)<=n67/\(4:Nat)=(4:Nat)/\p0_[n67.toNat]? = some (.agg [iN n72,iN n73,iN n74,iN n75]))/\yy (1:Nat) [iN n72]/\((List.flatMap AV.cells es68).length=es68.length*1/\(es68.length+1+(512:Nat))*41<=(1125899906842624:Nat)/\yv [iN n72]=true/\yv (List.flatMap AV.cells es68)=true)/\ye [AV.iface 1000000 (.slc 3 p1_)]/\ye [AV.eptr [AV.eptr d.cs (0:Nat),.map (0:Nat),AV.fn (72:FuncId) [] []] (0:Nat)]/\ye [iN l]/\TTail.z0=TTail.z0/\ye [iN l,iN n]/\ye [AV.slc 3 p2_,iN p3_,iN p4_]/\ye [AV.slc 4 (p5_::p6_),iN p7_,iN p8_]/\ye [AV.str p9_,iN p10_,iN p11_,iN p12_,iN p13_,iN p14_,.eptr [iN p15_,iN p16_,iN p17_,iN p18_,iN p19_,iN p20_,iN p21_,iN p22_,iN p23_,.slc 3 p24_,.slc 3 p25_,.slc 3 p26_,.slc 3 p27_,.slc 3 p28_] (0:Nat),iN p29_,iN p30_,.slc 3 p0_,iN p31_,iN p32_,iN p33_]/\ye [AV.slc 3 p34_,iN p35_,iN p36_]/\ye [AV.slc 0 [],iN (wrap i64 (p33_+p35_)),iN (wrap i64 (p37_+p36_))]/\ye [AV.slc 0 [],iN (wrap i64 (p33_+p35_)),iN (wrap i64 (p37_+p36_))]/\ye [AV.slc 4 (p5_::p6_),iN p7_,iN p8_]/\∃es91,(es91.length=es68.length+1/\List.flatMap AV.cells es91=List.flatMap AV.cells es68++[iN n72])/\∃k93,k93<m66/\I64 k93 [iN (wrap i64 (n67+1)),.slc 3 es91])/\(decide (n67<(↑p0_.length:Int))=false->((0:Nat)+es68.length*1<=(List.flatMap AV.cells es68).length/\yv (List.flatMap AV.cells es68)=true)/\∃es73,(es73.length=es68.length/\List.flatMap AV.cells es73=List.drop (0:Nat) (List.flatMap AV.cells es68)/\jS (1:Nat) (yf Tryz.prog (3:Nat)) es73)/\yy (1:Nat) p34_/\((1:Nat)=(1:Nat)/\((1:Nat)+p34_.length+512)*121<=(1125899906842624:Nat)/\yv (List.flatMap AV.cells p34_)=true/\yv [AV.slc 3 es73]=true)/\((0:Nat)+((1:Nat)+p34_.length)*1<=(.slc 3 es73::(List.flatMap AV.cells p34_)).length/\yv (.slc 3 es73::(List.flatMap AV.cells p34_))=true)/\∃es78,(es78.length=(1:Nat)+p34_.length/\List.flatMap AV.cells es78=AV.slc 3 es73::(List.flatMap AV.cells p34_)/\jS (1:Nat) (yf Tryz.prog (44:Nat)) es78)/\ye [AV.eptr [AV.eptr d.cs (0:Nat),.map (0:Nat),AV.fn (72:FuncId) [] []] (0:Nat)]/\ye [iN l]/\TTail.z0=TTail.z0/\ye [iN l,iN n]/\ye [AV.slc 3 p2_,iN p3_,iN p4_]/\p38_ (p39_+2) [AV.agg [AV.slc 3 es78,iN (wrap i64 (p33_+p35_)),iN (wrap i64 (p37_+p36_))],.agg [AV.iface 1000000 (.slc 3 p1_)]])
def R73 (d:TDepot) (M:List AV) (l n:Int) (S:SpecF) (_Fr:FreshF) (Sq:SeqF) (Q:yc):Prop :=
 ((l == (↑(List.map TRoLorry.av d.RoTask.Lorries).length:Int))=true->Q (TTail.zero.av) [[AV.iface 1000000 (.slc 3 M)]])/\((l == (↑(List.map TRoLorry.av d.RoTask.Lorries).length:Int))=false->kK Tryz.prog (32:Nat) M/\xn Tryz.prog (32:Nat) (.agg [iN l,iN n])/\∃es4 n5 n6 f7,v8 (TTail.zero.av) M (.agg [iN l,iN n]) f7 (.agg [AV.slc 3 es4,iN n5,iN n6])/\(f7=true->Q (.agg [AV.slc 3 es4,iN n5,iN n6]) [[AV.iface 1000000 (.slc 3 M)]])/\(f7=false->∃xs11,Sq (129:Nat) [AV.ref 0 0,.ref 1 0,.ref 2 0] [[AV.eptr [AV.eptr d.cs (0:Nat),.undef,AV.fn (72:FuncId) [] []] (0:Nat)],[iN l],[iN n]] xs11/\(∀(x14:List AV),x14∈xs11->js [AV.agg [AV.str (ByteArray.mk #[]),iN 0,iN 0,iN 0,iN 0,iN 0,.eptr TDepot.zero.cs (0:Nat),iN 0,iN 0,.slc 3 [],iN 0,iN 0,iN 0],iN 0] x14=true/\AV.zi x14=true)/\(xs11=[]->kK Tryz.prog (32:Nat) M/\xn Tryz.prog (32:Nat) (.agg [iN l,iN n])/\∃es'18,xJ M (.agg [iN l,iN n]) (TTail.zero.av) es'18/\Q (TTail.zero.av) [[AV.iface 1000000 (.slc 3 es'18)]])/\∃(I15:Nat->List AV->Prop),(∀(s17:ByteArray) (n18 n19 n20 n21 n22 n23 n24 n25 n26 n27 n28 n29 n30 n31:Int) (es32 es33 es34 es35 es36:List AV) (n37 n38:Int) (es39:List AV) (n40 n41 n42 n43:Int),xs11[(0:Nat)]? = some [AV.agg [AV.str s17,iN n18,iN n19,iN n20,iN n21,iN n22,.eptr [iN n23,iN n24,iN n25,iN n26,iN n27,iN n28,iN n29,iN n30,iN n31,.slc 3 es32,.slc 3 es33,.slc 3 es34,.slc 3 es35,.slc 3 es36] (0:Nat),iN n37,iN n38,.slc 3 es39,iN n40,iN n41,iN n42],iN n43]->∃es45 n46 n47 es48,S 73 [AV.eptr [AV.eptr d.cs (0:Nat),.map (0:Nat),AV.fn (72:FuncId) [] []] (0:Nat),iN (wrap i64 (l+1)),iN n43] [[AV.iface 1000000 (.slc 3 M)]] (.agg [AV.slc 3 es45,iN n46,iN n47]) [[AV.iface 1000000 (.slc 3 es48)]]/\∃n50,S 104 [AV.ref 0 0] [[AV.str s17,iN n18,iN n19,iN n20,iN n21,iN n22,.eptr [iN n23,iN n24,iN n25,iN n26,iN n27,iN n28,iN n29,iN n30,iN n31,.slc 3 es32,.slc 3 es33,.slc 3 es34,.slc 3 es35,.slc 3 es36] (0:Nat),iN n37,iN n38,.slc 3 es39,iN n40,iN n41,iN n42]] (iN n50) [[AV.str s17,iN n18,iN n19,iN n20,iN n21,iN n22,.eptr [iN n23,iN n24,iN n25,iN n26,iN n27,iN n28,iN n29,iN n30,iN n31,.slc 3 es32,.slc 3 es33,.slc 3 es34,.slc 3 es35,.slc 3 es36] (0:Nat),iN n37,iN n38,.slc 3 es39,iN n40,iN n41,iN n42]]/\∃(I52:Nat->List AV->Prop),(∃m54,I52 m54 [iN 0,.slc 3 []])/\∀(m54:Nat) (n55:Int) (es56:List AV),I52 m54 [iN n55,.slc 3 es56]->(decide (n55<(↑es39.length:Int))=true->∃n60 n61 n62 n63,((0:Int)<=n55/\(4:Nat)=(4:Nat)/\es39[n55.toNat]? = some (.agg [iN n60,iN n61,iN n62,iN n63]))/\yy (1:Nat) [iN n60]/\((List.flatMap AV.cells es56).length=es56.length*1/\(es56.length+1+(512:Nat))*41<=(1125899906842624:Nat)/\yv [iN n60]=true/\yv (List.flatMap AV.cells es56)=true)/\ye [AV.iface 1000000 (.slc 3 es48)]/\ye [AV.eptr [AV.eptr d.cs (0:Nat),.map (0:Nat),AV.fn (72:FuncId) [] []] (0:Nat)]/\ye [iN l]/\TTail.z0=TTail.z0/\ye [iN l,iN n]/\ye [AV.slc 3 es4,iN n5,iN n6]/\TTail.z0=TTail.z0/\ye [AV.str s17,iN n18,iN n19,iN n20,iN n21,iN n22,.eptr [iN n23,iN n24,iN n25,iN n26,iN n27,iN n28,iN n29,iN n30,iN n31,.slc 3 es32,.slc 3 es33,.slc 3 es34,.slc 3 es35,.slc 3 es36] (0:Nat),iN n37,iN n38,.slc 3 es39,iN n40,iN n41,iN n42]/\ye [AV.slc 3 es45,iN n46,iN n47]/\ye [AV.slc 0 [],iN (wrap i64 (n42+n46)),iN (wrap i64 (n50+n47))]/\∃es77,(es77.length=es56.length+1/\List.flatMap AV.cells es77=List.flatMap AV.cells es56++[iN n60])/\∃k79,k79<m54/\I52 k79 [iN (wrap i64 (n55+1)),.slc 3 es77])/\(decide (n55<(↑es39.length:Int))=false->((0:Nat)+es56.length*1<=(List.flatMap AV.cells es56).length/\yv (List.flatMap AV.cells es56)=true)/\∃es61,(es61.length=es56.length/\List.flatMap AV.cells es61=List.drop (0:Nat) (List.flatMap AV.cells es56)/\jS (1:Nat) (yf Tryz.prog (3:Nat)) es61)/\yy (1:Nat) es45/\((1:Nat)=(1:Nat)/\((1:Nat)+es45.length+512)*121<=(1125899906842624:Nat)/\yv (List.flatMap AV.cells es45)=true/\yv [AV.slc 3 es61]=true)/\((0:Nat)+((1:Nat)+es45.length)*1<=(.slc 3 es61::(List.flatMap AV.cells es45)).length/\yv (.slc 3 es61::(List.flatMap AV.cells es45))=true)/\∃es66,(es66.length=(1:Nat)+es45.length/\List.flatMap AV.cells es66=AV.slc 3 es61::(List.flatMap AV.cells es45)/\jS (1:Nat) (yf Tryz.prog (44:Nat)) es66)/\ye [AV.eptr [AV.eptr d.cs (0:Nat),.map (0:Nat),AV.fn (72:FuncId) [] []] (0:Nat)]/\ye [iN l]/\TTail.z0=TTail.z0/\ye [iN l,iN n]/\ye [AV.slc 3 es4,iN n5,iN n6]/\I15 (1:Nat) [AV.agg [AV.slc 3 es66,iN (wrap i64 (n42+n46)),iN (wrap i64 (n50+n47))],.agg [AV.iface 1000000 (.slc 3 es48)]]))/\(∀(i18:Nat) (s19:ByteArray) (n20 n21 n22 n23 n24 n25 n26 n27 n28 n29 n30 n31 n32 n33:Int) (es34 es35 es36 es37 es38:List AV) (n39 n40:Int) (es41:List AV) (n42 n43 n44 n45:Int),xs11[i18+(1:Nat)]? = some [AV.agg [AV.str s19,iN n20,iN n21,iN n22,iN n23,iN n24,.eptr [iN n25,iN n26,iN n27,iN n28,iN n29,iN n30,iN n31,iN n32,iN n33,.slc 3 es34,.slc 3 es35,.slc 3 es36,.slc 3 es37,.slc 3 es38] (0:Nat),iN n39,iN n40,.slc 3 es41,iN n42,iN n43,iN n44],iN n45]->∀(es47:List AV) (n48 n49:Int) (es50:List AV),I15 (i18+1) [AV.agg [AV.slc 3 es47,iN n48,iN n49],.agg [AV.iface 1000000 (.slc 3 es50)]]->∃es52 n53 n54 es55,S 73 [AV.eptr [AV.eptr d.cs (0:Nat),.map (0:Nat),AV.fn (72:FuncId) [] []] (0:Nat),iN (wrap i64 (l+1)),iN n45] [[AV.iface 1000000 (.slc 3 es50)]] (.agg [AV.slc 3 es52,iN n53,iN n54]) [[AV.iface 1000000 (.slc 3 es55)]]/\∃n57,S 104 [AV.ref 0 0] [[AV.str s19,iN n20,iN n21,iN n22,iN n23,iN n24,.eptr [iN n25,iN n26,iN n27,iN n28,iN n29,iN n30,iN n31,iN n32,iN n33,.slc 3 es34,.slc 3 es35,.slc 3 es36,.slc 3 es37,.slc 3 es38] (0:Nat),iN n39,iN n40,.slc 3 es41,iN n42,iN n43,iN n44]] (iN n57) [[AV.str s19,iN n20,iN n21,iN n22,iN n23,iN n24,.eptr [iN n25,iN n26,iN n27,iN n28,iN n29,iN n30,iN n31,iN n32,iN n33,.slc 3 es34,.slc 3 es35,.slc 3 es36,.slc 3 es37,.slc 3 es38] (0:Nat),iN n39,iN n40,.slc 3 es41,iN n42,iN n43,iN n44]]/\∃v59:AV,∃r60,es47=v59::r60/\(decide (wrap i64 (n44+n53)>n48)=true->OM d l n es41 es55 es4 n5 n6 v59 r60 n48 n49 s19 n20 n21 n22 n23 n24 n25 n26 n27 n28 n29 n30 n31 n32 n33 es34 es35 es36 es37 es38 n39 n40 n42 n43 n44 es52 n53 n54 n57 I15 i18)/\(decide (wrap i64 (n44+n53)>n48)=false->((wrap i64 (n44+n53) == n48)=true->((!decide (wrap i64 (n57+n54)<n49))=true->ye [AV.eptr [AV.eptr d.cs (0:Nat),.map (0:Nat),AV.fn (72:FuncId) [] []] (0:Nat)]/\ye [iN l]/\TTail.z0=TTail.z0/\ye [iN l,iN n]/\ye [AV.slc 3 es4,iN n5,iN n6]/\I15 (i18+2) [AV.agg [AV.slc 3 (v59::r60),iN n48,iN n49],.agg [AV.iface 1000000 (.slc 3 es55)]])/\((!decide (wrap i64 (n57+n54)<n49))=false->OM d l n es41 es55 es4 n5 n6 v59 r60 n48 n49 s19 n20 n21 n22 n23 n24 n25 n26 n27 n28 n29 n30 n31 n32 n33 es34 es35 es36 es37 es38 n39 n40 n42 n43 n44 es52 n53 n54 n57 I15 i18))/\((wrap i64 (n44+n53) == n48)=false->ye [AV.eptr [AV.eptr d.cs (0:Nat),.map (0:Nat),AV.fn (72:FuncId) [] []] (0:Nat)]/\ye [iN l]/\TTail.z0=TTail.z0/\ye [iN l,iN n]/\ye [AV.slc 3 es4,iN n5,iN n6]/\I15 (i18+2) [AV.agg [AV.slc 3 (v59::r60),iN n48,iN n49],.agg [AV.iface 1000000 (.slc 3 es55)]])))/\∀(es18:List AV) (n19 n20:Int) (es21:List AV),I15 xs11.length [AV.agg [AV.slc 3 es18,iN n19,iN n20],.agg [AV.iface 1000000 (.slc 3 es21)]]->kK Tryz.prog (32:Nat) es21/\xn Tryz.prog (32:Nat) (.agg [iN l,iN n])/\∃es'25,xJ es21 (.agg [iN l,iN n]) (.agg [AV.slc 3 es18,iN n19,iN n20]) es'25/\Q (.agg [AV.slc 3 es18,iN n19,iN n20]) [[AV.iface 1000000 (.slc 3 es'25)]]))
theorem s73 (d:TDepot) (M:List AV) (l:Int) (n:Int) (v:AV) (O:List (List AV)) (h:R73 d M l n Sp Fo So (fun r O'=>r=v/\O'=O)):Sp 73 [.eptr [d.ptr,.map 0,.fn 72 [] []] 0,iN l,iN n] [[.iface 1000000 (.slc 3 M)]] v O :=
 yb (w:=⟨[],[],[104,997000000],[(109,⟨[0,1,2,3,4,5,6],[],[],[]⟩),(72,⟨[0,1,2,3,4],[],[],[]⟩)],[92]⟩) (k:=4) (keep:=⟨[0,1,2,3,4,6,7,8,9,10,11,12,13,14,15,17,28,42,47,48,49,77,79,80,81,82],[⟨11,[],[],[(10,.agg [.slc 3 [],iN 0,iN 0]),(1000000,.agg [.iface 1000000 (.slc 3 [])])],[],[.agg [.str default,iN 0,iN 0,iN 0,iN 0,iN 0,.eptr [iN 0,iN 0,iN 0,iN 0,iN 0,iN 0,iN 0,iN 0,iN 0,.slc 3 [],.slc 3 [],.slc 3 [],.slc 3 [],.slc 3 []] 0,iN 0,iN 0,.slc 3 [],iN 0,iN 0,iN 0],iN 0],[[]]⟩,⟨16,[(81,iN 0)],[(15,3)],[],[],[],[]⟩],[],[(13,3500000010),(20,999000015),(21,2000000014)]⟩) (boxes:=[⟨126,false,[.iface 1000000 (.slc 3 M)]⟩]) mixed (by exact⟨Tryz.call109,⟨Tryz.call72,trivial⟩⟩) Tryz.func73 Tryz.call73 rfl rfl rfl (Nat.le_of_ble_eq_true rfl) (by kernel_rfl) h
def y7 (d:TDepot) (k l:Nat) (b:TTail) (p:TTour × Int):TTail:=ky b (qo d p.1 (yC d k (l+1) p.2))
def kA (d:TDepot) (k l:Nat) (L:List (Nat × Int)) (p:TTour × Int):List (Nat × Int):=jf d k (l+1) p.2 L
theorem OT (d:TDepot) (hd:Wy d) (hN:d.RoTask.Lorries.length<=1000):∀(k l:Nat) (n:Int) (L:List (Nat × Int)),l+k=d.RoTask.Lorries.length->0<=n->n<64->L.Nodup->(∀q∈L,vd q) ->
  Sp 73 [.eptr [d.ptr,.map 0,.fn 72 [] []] 0,.int .i64 l,.int .i64 n] [[.iface 1000000 (.slc 3 (L.map (xO d)))]] (yC d k l n).av [[.iface 1000000 (.slc 3 ((jf d k l n L).map (xO d)))]]:=by
 have hjl:=hd.jl;intro k;induction k with
 |zero =>
  intro l n L hl h0 h1 hnd hk;refine s73 d _ l n _ _ ?_;unfold R73 OM;exact⟨fun _=>⟨rfl,rfl⟩,fun h=>by rw[List.length_map,<- hl] at h;simp at h⟩
 |succ k ih =>
  intro l n L hl h0 h1 hnd hk;refine s73 d _ l n _ _ ?_;unfold R73 OM;refine⟨fun h=>by rw[List.length_map,beq_iff_eq] at h;omega,fun _=>?_⟩;have hkey:vd (l,n):=⟨by show l<=1000;omega,h0,h1⟩;have hbt:Th d l n=yC d (k+1) l n:=by unfold Th;rw[show d.RoTask.Lorries.length-l=k+1 by omega]
  refine⟨Tz d hk,vG hkey,?_⟩;by_cases hc:(l,n)∈L
  ·refine⟨_,_,_,true,F5 (d:=d) hnd hc _,fun _=>⟨?_,?_⟩,fun h=>by cases h⟩
   ·rw[<- hbt];rfl
   ·have:jf d (k+1) l n L=L:=by unfold jf;rw[if_pos hc]
    rw[this]
  refine⟨[],0,0,false,Ko (d:=d) hc _,fun h=>(by cases h),fun _=>?_⟩;generalize hG:wH d 7 (jV d l) n=G;have hin:∀p∈G,_:=fun p hp=>Xa 7 _ _ h0 h1 hjl (by show (-1:Int)<_;omega) p (hG▸hp)
  have hB:yC d (k+1) l n=G.foldl (y7 d k l) TTail.zero:=by rw[<- hG];rfl
  have hM:jf d (k+1) l n L=G.foldl (kA d k l) L++[(l,n)]:=by rw[<- hG];unfold jf;rw[if_neg hc];rfl
  have hseq:=UE d hd l n (by omega) (by omega) h0 h1;rw[hG] at hseq;have hput:∀b:TTail,b=yC d (k+1) l n->xJ ((G.foldl (kA d k l) L).map (xO d)) (Uf (l,n)) b.av ((jf d (k+1) l n L).map (xO d)):=by
   rintro b rfl;rw[<- hbt,hM];exact F6 (XG hc)
  have hkM:∀i,∀q∈(G.take i).foldl (kA d k l) L,vd q:=fun i=>QA hjl (by omega) _ _ (fun p hp=>(hin p (List.mem_of_mem_take hp)).2.2) hk
  have hnM:∀i,((G.take i).foldl (kA d k l) L).Nodup:=fun i=>X8 _ _ hnd
  refine⟨_,hseq,fun x hx=>?_,fun he=>?_,?_⟩
  ·obtain ⟨p,_,rfl⟩:=List.mem_map.1 hx;exact⟨rfl,rfl⟩
  ·have he:G=[]:=List.map_eq_nil_iff.1 he;have:=hput TTail.zero (by rw[hB,he];rfl);rw[he] at this;exact⟨Tz d hk,vG hkey,_,this,by rw[hB,he];rfl,rfl⟩
  refine⟨fun i vs=>vs=[((G.take i).foldl (y7 d k l) TTail.zero).av,.agg [.iface 1000000 (.slc 3 (((G.take i).foldl (kA d k l) L).map (xO d)))]],?_,?_,?_⟩
  ·intros;rename_i hx;rw[List.getElem?_map] at hx;obtain ⟨p,hp,he⟩:=Option.map_eq_some_iff.1 hx;cases he;obtain ⟨i1,i2,i3,i4⟩:=hin p (List.mem_of_getElem? hp);have hR:(yC d k (l+1) p.2).plan.length<=1000:=Nat.le_trans (xV ..) (by omega);have hJl:(yo p.1).length=p.1.stops.length:=List.length_map ..;have hon:(p.1.on d).stops.length=p.1.stops.length:=rfl;have hJm:p.1.stops.length<=7:=by have:(jV d l).stops.length=0:=rfl;omega
   rw[yg (by omega)];refine⟨_,_,_,_,ih (l+1) p.2 L (by omega) i3 i4 hnd hk,_,Lm d p.1 i1,?_⟩;refine⟨fun m vs=>∃j:Nat,vs=[.int .i64 j,.slc 3 (yn ((yo p.1).take j))]/\j<=(yo p.1).length/\m=(yo p.1).length-j,⟨_,0,rfl,by omega,rfl⟩,?_⟩;rintro m _ _ ⟨j,hj,hle,rfl⟩;cases hj;refine⟨fun h3=>?_,fun h3=>?_⟩
   ·have h3:j<p.1.stops.length:=by have:=zt_ h3;rw[List.length_map] at this;omega
    have hs:=vm ((yo p.1).take j) (by rw[List.length_take];omega) (p.1.stops[j]).Job;refine⟨_,_,_,_,⟨by omega,rfl,vl h3⟩,hs.1,hs.2,?_⟩;repeat (refine And.intro rfl ?_)
    exact⟨yn ((yo p.1).take (j+1)),wT h3,_,(by omega:(yo p.1).length-(j+1)<(yo p.1).length-j),j+1,by rw[yg (by omega)],by omega,rfl⟩
   ·have h3:j=(yo p.1).length:=by have:=zf_ h3;rw[List.length_map] at this;omega
    subst h3;rw[List.take_length];obtain ⟨t1,t2,t3,t4⟩:=Ya (yo p.1) (yC d k (l+1) p.2).plan hR;refine⟨(qL _).1,yn (yo p.1),(qL _).2,t1,t2,t3,yP (yo p.1::(yC d k (l+1) p.2).plan),t4,?_⟩;repeat (refine And.intro rfl ?_)
    have hsB:(G.take 1).foldl (y7 d k l) TTail.zero=ky TTail.zero (qo d p.1 (yC d k (l+1) p.2)):=j7 hp;have hsM:(G.take 1).foldl (kA d k l) L=jf d k (l+1) p.2 L:=j7 hp;show [_,_]=[((G.take 1).foldl (y7 d k l) TTail.zero).av,AV.agg [.iface 1000000 (.slc 3 (((G.take 1).foldl (kA d k l) L).map (xO d)))]];rw[hsB,hsM];rfl
  ·intro i;intros;rename_i hx es47 n48 n49 es50 hI;rw[List.getElem?_map] at hx;obtain ⟨p,hp,he⟩:=Option.map_eq_some_iff.1 hx;cases he;cases hI;obtain ⟨i1,i2,i3,i4⟩:=hin p (List.mem_of_getElem? hp);have hR:(yC d k (l+1) p.2).plan.length<=1000:=Nat.le_trans (xV ..) (by omega);have hJl:(yo p.1).length=p.1.stops.length:=List.length_map ..;have hon:(p.1.on d).stops.length=p.1.stops.length:=rfl;have hJm:p.1.stops.length<=7:=by have:(jV d l).stops.length=0:=rfl;omega
   have hne:((G.take (i+1)).foldl (y7 d k l) TTail.zero).plan≠[]:=Nb _ _ (.inr fun h=>by
    have h:=congrArg List.length h;have:=(List.getElem?_eq_some_iff.1 hp).1;rw[List.length_take,List.length_nil] at h;omega)
   have hsB:(G.take (i+2)).foldl (y7 d k l) TTail.zero=ky ((G.take (i+1)).foldl (y7 d k l) TTail.zero) (qo d p.1 (yC d k (l+1) p.2)):=j7 hp;have hsM:(G.take (i+2)).foldl (kA d k l) L=jf d k (l+1) p.2 ((G.take (i+1)).foldl (kA d k l) L):=j7 hp;obtain ⟨a,r,har⟩:=List.exists_cons_of_ne_nil hne;rw[yg (by omega)];refine⟨_,_,_,_,ih (l+1) p.2 _ (by omega) i3 i4 (hnM (i+1)) (hkM (i+1)),_,Lm d p.1 i1,_,_,by rw[har];rfl,fun g1=>?_,fun g1=>⟨fun g2=>⟨fun g3=>?_,fun g3=>?_⟩,fun g2=>?_⟩⟩
   ·have hb:ka (qo d p.1 (yC d k (l+1) p.2)) ((G.take (i+1)).foldl (y7 d k l) TTail.zero)=true:=by
     show (_ || _)=true;rw[show decide ((qo d p.1 (yC d k (l+1) p.2)).value>((G.take (i+1)).foldl (y7 d k l) TTail.zero).value)=true from g1];rfl
    refine⟨fun m vs=>∃j:Nat,vs=[.int .i64 j,.slc 3 (yn ((yo p.1).take j))]/\j<=(yo p.1).length/\m=(yo p.1).length-j,⟨_,0,rfl,by omega,rfl⟩,?_⟩;rintro m _ _ ⟨j,hj,hle,rfl⟩;cases hj;refine⟨fun h3=>?_,fun h3=>?_⟩
    ·have h3:j<p.1.stops.length:=by have:=zt_ h3;rw[List.length_map] at this;omega
     have hs:=vm ((yo p.1).take j) (by rw[List.length_take];omega) (p.1.stops[j]).Job;refine⟨_,_,_,_,⟨by omega,rfl,vl h3⟩,hs.1,hs.2,?_⟩;repeat (refine And.intro rfl ?_)
     exact⟨yn ((yo p.1).take (j+1)),wT h3,_,(by omega:(yo p.1).length-(j+1)<(yo p.1).length-j),j+1,by rw[yg (by omega)],by omega,rfl⟩
    ·have h3:j=(yo p.1).length:=by have:=zf_ h3;rw[List.length_map] at this;omega
     subst h3;rw[List.take_length];obtain ⟨t1,t2,t3,t4⟩:=Ya (yo p.1) (yC d k (l+1) p.2).plan hR;refine⟨(qL _).1,yn (yo p.1),(qL _).2,t1,t2,t3,yP (yo p.1::(yC d k (l+1) p.2).plan),t4,?_⟩;repeat (refine And.intro rfl ?_)
     show [_,_]=[((G.take (i+2)).foldl (y7 d k l) TTail.zero).av,AV.agg [.iface 1000000 (.slc 3 (((G.take (i+2)).foldl (kA d k l) L).map (xO d)))]];rw[hsB,xB hne hb,hsM];rfl
   ·have hb:ka (qo d p.1 (yC d k (l+1) p.2)) ((G.take (i+1)).foldl (y7 d k l) TTail.zero)=false:=by
     show (_ || (_ && _))=false;rw[show decide ((qo d p.1 (yC d k (l+1) p.2)).value>((G.take (i+1)).foldl (y7 d k l) TTail.zero).value)=false from g1,show decide ((qo d p.1 (yC d k (l+1) p.2)).cost<((G.take (i+1)).foldl (y7 d k l) TTail.zero).cost)=false from (by rw[Bool.not_eq_true'] at g3;exact g3),Bool.and_false];rfl
    repeat (refine And.intro rfl ?_)
    show [_,_]=[((G.take (i+2)).foldl (y7 d k l) TTail.zero).av,AV.agg [.iface 1000000 (.slc 3 (((G.take (i+2)).foldl (kA d k l) L).map (xO d)))]];rw[hsB,Xf hne hb,hsM];show _=[AV.agg [.slc 3 (yP _),_,_],_];rw[har];rfl
   ·have hb:ka (qo d p.1 (yC d k (l+1) p.2)) ((G.take (i+1)).foldl (y7 d k l) TTail.zero)=true:=by
     show (_ || (_ && _))=true;rw[show ((qo d p.1 (yC d k (l+1) p.2)).value == ((G.take (i+1)).foldl (y7 d k l) TTail.zero).value)=true from g2,show decide ((qo d p.1 (yC d k (l+1) p.2)).cost<((G.take (i+1)).foldl (y7 d k l) TTail.zero).cost)=true from (by rw[Bool.not_eq_false'] at g3;exact g3),Bool.and_true,Bool.or_true]
    refine⟨fun m vs=>∃j:Nat,vs=[.int .i64 j,.slc 3 (yn ((yo p.1).take j))]/\j<=(yo p.1).length/\m=(yo p.1).length-j,⟨_,0,rfl,by omega,rfl⟩,?_⟩;rintro m _ _ ⟨j,hj,hle,rfl⟩;cases hj;refine⟨fun h3=>?_,fun h3=>?_⟩
    ·have h3:j<p.1.stops.length:=by have:=zt_ h3;rw[List.length_map] at this;omega
     have hs:=vm ((yo p.1).take j) (by rw[List.length_take];omega) (p.1.stops[j]).Job;refine⟨_,_,_,_,⟨by omega,rfl,vl h3⟩,hs.1,hs.2,?_⟩;repeat (refine And.intro rfl ?_)
     exact⟨yn ((yo p.1).take (j+1)),wT h3,_,(by omega:(yo p.1).length-(j+1)<(yo p.1).length-j),j+1,by rw[yg (by omega)],by omega,rfl⟩
    ·have h3:j=(yo p.1).length:=by have:=zf_ h3;rw[List.length_map] at this;omega
     subst h3;rw[List.take_length];obtain ⟨t1,t2,t3,t4⟩:=Ya (yo p.1) (yC d k (l+1) p.2).plan hR;refine⟨(qL _).1,yn (yo p.1),(qL _).2,t1,t2,t3,yP (yo p.1::(yC d k (l+1) p.2).plan),t4,?_⟩;repeat (refine And.intro rfl ?_)
     show [_,_]=[((G.take (i+2)).foldl (y7 d k l) TTail.zero).av,AV.agg [.iface 1000000 (.slc 3 (((G.take (i+2)).foldl (kA d k l) L).map (xO d)))]];rw[hsB,xB hne hb,hsM];rfl
   ·have hb:ka (qo d p.1 (yC d k (l+1) p.2)) ((G.take (i+1)).foldl (y7 d k l) TTail.zero)=false:=by
     show (_ || (_ && _))=false;rw[show decide ((qo d p.1 (yC d k (l+1) p.2)).value>((G.take (i+1)).foldl (y7 d k l) TTail.zero).value)=false from g1,show ((qo d p.1 (yC d k (l+1) p.2)).value == ((G.take (i+1)).foldl (y7 d k l) TTail.zero).value)=false from g2,Bool.false_and];rfl
    repeat (refine And.intro rfl ?_)
    show [_,_]=[((G.take (i+2)).foldl (y7 d k l) TTail.zero).av,AV.agg [.iface 1000000 (.slc 3 (((G.take (i+2)).foldl (kA d k l) L).map (xO d)))]];rw[hsB,Xf hne hb,hsM];show _=[AV.agg [.slc 3 (yP _),_,_],_];rw[har];rfl
  ·intro es18 n19 n20 es21 hI;rw[List.length_map,List.take_length] at hI;have h2:=hput _ hB.symm;have h3:=hkM G.length;rw[List.take_length] at h3;cases hI;exact⟨Tz d h3,vG hkey,_,h2,by rw[hB];rfl,rfl⟩
end Go.Proofs.YtkojpnkknehhmaaGreatDoor

/- The search for the best plan. -/
import Derived.Test.YtdeeekgohhkdbaaGreatDoorSa
namespace Go.Proofs.YtdeeekgohhkdbaaGreatDoor
open Go.IntKind (wrap i64 u64)
def yB (r:TTour):List Int:=r.stops.map (·.Job)
def kx (a b:TTail):Bool:=decide (a.value>b.value) || (a.value == b.value && decide (a.cost<b.cost))
def qA (d:TDepot) (r:TTour) (rest:TTail):TTail:=⟨yB r::rest.plan,wrap i64 (r.value+rest.value),wrap i64 (Mj d r+rest.cost)⟩
def kK (b t:TTail):TTail:=if b.plan=[] then t else if kx t b then t else b
def yN (d:TDepot):Nat->Nat->Int->TTail
 |0,_,_=>TTail.zero
 |k+1,l,n=>(wZ d 7 (qg d l) n).foldl (fun b p=>kK b (qA d p.1 (yN d k (l+1) p.2))) TTail.zero
def jv (d:TDepot):Nat->Nat->Int->List (Nat × Int)->List (Nat × Int)
 |0,_,_,L=>L
 |k+1,l,n,L=>if (l,n)∈L then L else (wZ d 7 (qg d l) n).foldl (fun L p=>jv d k (l+1) p.2 L) L++[(l,n)]
def TR (d:TDepot) (l:Nat) (n:Int):TTail:=yN d (d.RoTask.Lorries.length-l) l n
def UX (q:Nat × Int):AV:=.agg [.int .i64 q.1,.int .i64 q.2]
def x8 (d:TDepot) (q:Nat × Int):AV:=.agg [UX q,(TR d q.1 q.2).av]
theorem Ju (a b:Int) (ha:(Lit.int .i64 a).wf=true) (hb:(Lit.int .i64 b).wf=true):∃l,keyOf Tryz.prog 67 (.agg #[.int .i64 a,.int .i64 b])=some l:=by
 have hu:Tryz.prog.underlying 67=some (.array 2 3):=by kernel_rfl
 have h3:Tryz.prog.underlying 3=some (.int .i64):=by kernel_rfl
 have c2:Tryz.prog.cellsOf 67=2:=by kernel_rfl
 have c1:Tryz.prog.cellsOf 3=1:=by kernel_rfl
 have hk:Tryz.prog.keyType 67=true:=by kernel_rfl
 have hf:(Value.agg #[.int .i64 a,.int .i64 b]).formed Tryz.prog 67=true:=by kernel_rfl
 obtain ⟨e,he⟩:∃e,Tryz.prog.types.size=e+1:=⟨Tryz.prog.types.size-1,by kernel_rfl⟩;unfold keyOf;rw[hu];dsimp only;rw[hk,hf,he];have hl:∀n:Int,(Lit.int .i64 n).wf=true->Tryz.prog.keyLits (e+1) 3 [.int .i64 n]=some [.int .i64 n]:=fun n hn=>by
  unfold Program.keyLits;rw[h3];simp[hn]
 have:Tryz.prog.keyLits (e+1+1) 67 (Value.agg #[.int .i64 a,.int .i64 b]).cells.toList=some [.int .i64 a,.int .i64 b]:=by
  show Tryz.prog.keyLits (e+1+1) 67 [.int .i64 a,.int .i64 b]=_;unfold Program.keyLits;rw[hu];simp[c2,c1,List.range_succ,hl a ha,hl b hb]
 rw[this];exact⟨_,rfl⟩
theorem DN (c:Value):Ow Tryz.prog 67 c=(Tryz.prog.keyTypeAt 2 67=true/\Tryz.prog.tiled 2 67=true/\∃l,keyOf Tryz.prog 67 c=some l):=by kernel_rfl
theorem Fa (a b:Int) (ha:(Lit.int .i64 a).wf=true) (hb:(Lit.int .i64 b).wf=true):xP Tryz.prog 67 (.agg [.int .i64 a,.int .i64 b]):=⟨.agg #[.int .i64 a,.int .i64 b],rfl,by rw[DN];exact⟨by kernel_rfl,by kernel_rfl,Ju a b ha hb⟩⟩
def vu (q:Nat × Int):Prop:=q.1<=1000/\0<=q.2/\q.2<64
theorem Ov {n:Int} (h0:0<=n) (h1:n<=1000000):(Lit.int .i64 n).wf=true:=by
 simp[Lit.wf,IntKind.min,IntKind.max,IntKind.signed,IntKind.bits];omega
theorem vV {q:Nat × Int} (h:vu q):xP Tryz.prog 67 (UX q):=Fa _ _ (Ov (by omega) (by have:=h.1;omega)) (Ov h.2.1 (by have:=h.2.2;omega))
theorem Sn (d:TDepot) {L:List (Nat × Int)} (h:∀q∈L,vu q):kX Tryz.prog 67 (L.map (x8 d)):=by
 intro x hx;obtain ⟨q,hq,rfl⟩:=List.mem_map.1 hx;exact⟨_,_,rfl,vV (h q hq)⟩
theorem Mq {d:TDepot} {L:List (Nat × Int)} {q:Nat × Int} {j:Nat} {v:AV} (h:(L.map (x8 d))[j]? = some (.agg [UX q,v])):L[j]? = some q/\v=(TR d q.1 q.2).av:=by
 rw[List.getElem?_map] at h;obtain ⟨q',h1,h2⟩:=Option.map_eq_some_iff.1 h;simp only[x8,UX,AV.agg.injEq,List.cons.injEq,and_true,AV.int.injEq,true_and] at h2;obtain ⟨⟨h3,h4⟩,h2⟩:=h2;have:q'=q:=Prod.ext (by omega) h4;subst this;exact⟨h1,h2.symm⟩
theorem Uz {d:TDepot} {L:List (Nat × Int)} {q:Nat × Int} {v:AV} (h:AV.agg [UX q,v]∈L.map (x8 d)):q∈L:=by
 obtain ⟨j,hj⟩:=List.mem_iff_getElem?.1 h;exact List.mem_of_getElem? (Mq hj).1
theorem DP {d:TDepot} {L:List (Nat × Int)} {q:Nat × Int} (hc:q∉L):x5 (L.map (x8 d)) (UX q) (TR d q.1 q.2).av ((L++[q]).map (x8 d)) :=
 .inr ⟨fun v' hm=>hc (Uz hm),by rw[List.map_append];rfl⟩
theorem DO {d:TDepot} {L:List (Nat × Int)} {q:Nat × Int} (h:L.Nodup) (hc:q∈L) (z:AV):ur z (L.map (x8 d)) (UX q) true (TR d q.1 q.2).av:=by
 obtain ⟨i,hi⟩:=List.mem_iff_getElem?.1 hc;have hl:i<L.length:=(List.getElem?_eq_some_iff.1 hi).1;exact⟨i,by rw[List.getElem?_map,hi];rfl,fun j v' hj=>((List.getElem?_inj hl h).1 (by rw[hi,(Mq hj).1])).symm⟩
theorem JE {d:TDepot} {L:List (Nat × Int)} {q:Nat × Int} (hc:q∉L) (z:AV):ur z (L.map (x8 d)) (UX q) false z :=
 ⟨fun _v' hm=>hc (Uz hm),rfl⟩
theorem MX {d:TDepot}:∀(k l:Nat) (n:Int) (L:List (Nat × Int)) (q:Nat × Int),q∈jv d k l n L->q∈L\/l<=q.1:=by
 intro k;induction k with
 |zero=>intro l n L q h;exact .inl h
 |succ k ih =>
  intro l n L q h;unfold jv at h;split at h
  ·exact .inl h
  ·rcases List.mem_append.1 h with h | h
   ·have key:∀(G:List (TTour × Int)) (L:List (Nat × Int)),q∈G.foldl (fun L p=>jv d k (l+1) p.2 L) L->q∈L\/l<=q.1:=by
     intro G;induction G with
     |nil=>intro L h;exact .inl h
     |cons p r ihr =>
      intro L h;rcases ihr _ h with h | h
      ·exact(ih _ _ _ _ h).imp id fun h=>by omega
      ·exact .inr h
    exact key _ _ h
   ·rw[List.mem_singleton] at h;subst h;exact .inr (Nat.le_refl _)
theorem Lf {d:TDepot} {k l:Nat} {q:Nat × Int}:∀(G:List (TTour × Int)) (L:List (Nat × Int)),q∈G.foldl (fun L p=>jv d k (l+1) p.2 L) L->q∈L\/l+1<=q.1:=by
 intro G;induction G with
 |nil=>intro L h;exact .inl h
 |cons p r ihr =>
  intro L h;rcases ihr _ h with h | h
  ·exact MX _ _ _ _ _ h
  ·exact .inr h
theorem X0 {d:TDepot} {k l:Nat} {n:Int} {G:List (TTour × Int)} {L:List (Nat × Int)} (h:(l,n)∉L):(l,n)∉G.foldl (fun L p=>jv d k (l+1) p.2 L) L:=fun hm =>
 (Lf G L hm).elim h fun h=>by simp at h;omega
theorem Q2 {d:TDepot}:∀(k l:Nat) (n:Int) (L:List (Nat × Int)),L.Nodup->(jv d k l n L).Nodup:=by
 intro k;induction k with
 |zero=>intro l n L h;exact h
 |succ k ih =>
  intro l n L h;unfold jv;split
  ·exact h
  ·rename_i hc;have key:∀(G:List (TTour × Int)) (L:List (Nat × Int)),L.Nodup->(G.foldl (fun L p=>jv d k (l+1) p.2 L) L).Nodup:=by
    intro G;induction G with
    |nil=>intro L h;exact h
    |cons p r ihr=>intro L h;exact ihr _ (ih _ _ _ h)
   refine List.nodup_append.2 ⟨key _ _ h,by simp,fun a ha b hb=>?_⟩;rw[List.mem_singleton] at hb;subst hb;rintro rfl;exact X0 hc ha
theorem Wn {d:TDepot} {k l:Nat}:∀(G:List (TTour × Int)) (L:List (Nat × Int)),L.Nodup->(G.foldl (fun L p=>jv d k (l+1) p.2 L) L).Nodup:=by
 intro G;induction G with
 |nil=>intro L h;exact h
 |cons p r ihr=>intro L h;exact ihr _ (Q2 _ _ _ _ h)
theorem Xw {d:TDepot}:∀(f:Nat) (r:TTour) (n:Int),0<=n->n<64->d.RoTask.Jobs.length<=6->r.last<d.RoTask.Jobs.length->∀p∈wZ d f r n,p.1.last<d.RoTask.Jobs.length/\p.1.stops.length<=r.stops.length+f/\0<=p.2/\p.2<64:=by
 intro f;induction f with
 |zero=>intro r n _ _ _ _ p h;cases h
 |succ f ih =>
  intro r n h0 h1 hj hl p h;unfold wZ at h;split at h
  ·rcases List.mem_cons.1 h with rfl | h
   ·exact⟨hl,by simp,h0,h1⟩
   ·obtain ⟨j,hj',h⟩:=List.mem_flatMap.1 h;rw[List.mem_range] at hj';split at h
    ·rename_i hc;unfold Pb at hc;simp only[Bool.and_eq_true] at hc;obtain ⟨b1,b2,b3⟩:=Md h0 h1 (by omega) hc.1;obtain ⟨v1,v2⟩:=wL hc.2.2;have:=ih _ _ b1 b2 hj (by rw[v1];omega) p h;rw[v2] at this;exact⟨this.1,by omega,this.2.2⟩
    ·cases h
  ·cases h
theorem HB {b t:TTail} (h:t.plan≠[]):(kK b t).plan≠[]:=by
 unfold kK;split
 ·exact h
 ·rename_i h2;split
  ·exact h
  ·exact h2
theorem Mt {d:TDepot} {k l:Nat}:∀(G:List (TTour × Int)) (b:TTail),b.plan≠[]\/G≠[]->(G.foldl (fun b p=>kK b (qA d p.1 (yN d k l p.2))) b).plan≠[]:=by
 intro G;induction G with
 |nil=>intro b h;exact h.elim id fun h=>absurd rfl h
 |cons p r ih=>intro b _;exact ih _ (.inl (HB (by simp[qA])))
theorem JU {b t:TTail} {k:Nat} (h:t.plan.length<=k) (h':b.plan.length<=k):(kK b t).plan.length<=k:=by
 unfold kK;split
 ·exact h
 ·split
  ·exact h
  ·exact h'
theorem vm {d:TDepot}:∀(k l:Nat) (n:Int),(yN d k l n).plan.length<=k:=by
 intro k;induction k with
 |zero=>intro l n;exact Nat.le_refl _
 |succ k ih =>
  intro l n;have key:∀(G:List (TTour × Int)) (b:TTail),b.plan.length<=k+1->(G.foldl (fun b p=>kK b (qA d p.1 (yN d k (l+1) p.2))) b).plan.length<=k+1:=by
   intro G;induction G with
   |nil=>intro b h;exact h
   |cons p r ihr =>
    intro b h;refine ihr _ ?_;have hj:(qA d p.1 (yN d k (l+1) p.2)).plan.length<=k+1:=by
     have:=ih (l+1) p.2;simp only[qA,List.length_cons];omega
    exact JU hj h
  exact key _ _ (Nat.zero_le _)
theorem ku {α β:Type} {f:β->α->β} {b:β} {G:List α} {i:Nat} {p:α} (h:G[i]? = some p):(G.take (i+1)).foldl f b=f ((G.take i).foldl f b) p:=by
 rw[List.take_add_one,h,List.foldl_append];rfl
theorem kT:∀ {l:List AV},(∀v∈l,v.cells=[v])->l.flatMap AV.cells=l
 |[],_=>rfl
 |x::r,h=>by rw[List.flatMap_cons,kT fun v hv=>h v (List.mem_cons_of_mem _ hv),h x List.mem_cons_self];rfl
def yo (l:List Int):List AV:=l.map (AV.int .i64)
def yC (l:List (List Int)):List AV:=l.map fun x=>.slc 3 (yo x)
theorem yL {l:List Int}:∀v∈yo l,v.cells=[v]:=fun v hv=>by
 obtain ⟨x,_,rfl⟩:=List.mem_map.1 hv;rfl
theorem xH {l:List (List Int)}:∀v∈yC l,v.cells=[v]:=fun v hv=>by
 obtain ⟨x,_,rfl⟩:=List.mem_map.1 hv;rfl
theorem jC (l:List Int):yw (yo l)=true:=List.all_eq_true.2 fun v hv=>by
 obtain ⟨x,_,rfl⟩:=List.mem_map.1 hv;rfl
theorem Wc (l:List (List Int)):yw (yC l)=true:=List.all_eq_true.2 fun v hv=>by
 obtain ⟨x,_,rfl⟩:=List.mem_map.1 hv;rfl
theorem QB {l:List AV} (h:∀v∈l,v.cells=[v]):yA 1 l:=fun v hv=>by rw[h v hv];rfl
theorem S1:yp Tryz.prog 3=false:=by kernel_rfl
theorem Gg:yp Tryz.prog 41=false:=by kernel_rfl
theorem XY {l:List AV} (h:∀v∈l,v.cells=[v]):kg 1 false l:=fun v hv=>by
 rw[if_neg Bool.false_ne_true];exact h v hv
theorem Yj (J:List Int) (R:List (List Int)) (hR:R.length<=1000) :
  yA 1 (yC R)/\(1=1/\(1+(yC R).length+512)*121<=1125899906842624/\yw (List.flatMap AV.cells (yC R))=true/\yw [AV.slc 3 (yo J)]=true) /\
   (0+(1+(yC R).length)*1<=(AV.slc 3 (yo J)::List.flatMap AV.cells (yC R)).length/\yw (AV.slc 3 (yo J)::List.flatMap AV.cells (yC R))=true) /\
   ((yC (J::R)).length=1+(yC R).length/\List.flatMap AV.cells (yC (J::R))=AV.slc 3 (yo J)::List.flatMap AV.cells (yC R)/\kg 1 (yp Tryz.prog 41) (yC (J::R))):=by
 have hl:(yC R).length=R.length:=List.length_map ..;rw[kT xH];refine⟨QB xH,⟨rfl,by omega,Wc R,rfl⟩,⟨by rw[List.length_cons];omega,?_⟩,by rw[hl];simp[yC];omega,?_,?_⟩
 ·exact Wc (J::R)
 ·rw[kT xH];rfl
 ·rw[Gg];exact XY xH
theorem vD (J:List Int) (hJ:J.length<=1000) (x:Int) :
  yA 1 [AV.int .i64 x]/\((List.flatMap AV.cells (yo J)).length=(yo J).length*1/\((yo J).length+1+512)*41<=1125899906842624/\yw [AV.int .i64 x]=true/\yw (List.flatMap AV.cells (yo J))=true):=by
 have hl:(yo J).length=J.length:=List.length_map ..;rw[kT yL];exact⟨fun v hv=>by rw[List.mem_singleton.1 hv];rfl,by omega,by omega,rfl,jC J⟩
theorem qV (J:List Int):(0+(yo J).length*1<=(List.flatMap AV.cells (yo J)).length/\yw (List.flatMap AV.cells (yo J))=true) /\
  ((yo J).length=(yo J).length/\List.flatMap AV.cells (yo J)=List.drop 0 (List.flatMap AV.cells (yo J))/\kg 1 (yp Tryz.prog 3) (yo J)):=by
 rw[kT yL];refine⟨⟨by omega,jC J⟩,rfl,rfl,?_⟩;rw[S1];exact XY yL
theorem KC {d:TDepot} (hj:d.RoTask.Jobs.length<=6):∀(k l:Nat) (n:Int) (L:List (Nat × Int)),l+k<=1000->0<=n->n<64->(∀q∈L,vu q)->∀q∈jv d k l n L,vu q:=by
 intro k;induction k with
 |zero=>intro l n L _ _ _ h;exact h
 |succ k ih =>
  intro l n L hl h0 h1 h;unfold jv;split
  ·exact h
  ·have key:∀(G:List (TTour × Int)) (L:List (Nat × Int)),(∀p∈G,0<=p.2/\p.2<64)->(∀q∈L,vu q)->∀q∈G.foldl (fun L p=>jv d k (l+1) p.2 L) L,vu q:=by
    intro G;induction G with
    |nil=>intro L _ h;exact h
    |cons p r ihr=>intro L hp h;exact ihr _ (fun p' hp'=>hp p' (List.mem_cons_of_mem _ hp')) (ih _ _ _ (by omega) (hp p List.mem_cons_self).1 (hp p List.mem_cons_self).2 h)
   intro q hq;rcases List.mem_append.1 hq with hq | hq
   ·exact key _ _ (fun p hp=>(Xw 7 _ _ h0 h1 hj (by show (-1:Int)<_;omega) p hp).2.2) h q hq
   ·rw[List.mem_singleton.1 hq];exact⟨by show l<=1000;omega,h0,h1⟩
theorem Pn {d:TDepot} (hj:d.RoTask.Jobs.length<=6) {k l:Nat} (hl:l+1+k<=1000):∀(G:List (TTour × Int)) (L:List (Nat × Int)),(∀p∈G,0<=p.2/\p.2<64)->(∀q∈L,vu q)->∀q∈G.foldl (fun L p=>jv d k (l+1) p.2 L) L,vu q:=by
 intro G;induction G with
 |nil=>intro L _ h;exact h
 |cons p r ihr=>intro L hp h;exact ihr _ (fun p' hp'=>hp p' (List.mem_cons_of_mem _ hp')) (KC hj _ _ _ _ hl (hp p List.mem_cons_self).1 (hp p List.mem_cons_self).2 h)
theorem vC {S:List TRoStop} {j:Nat} (h:j<S.length):(S.map TRoStop.av)[((j:Nat):Int).toNat]? = some (S[j]).av:=by
 rw[Int.toNat_natCast,List.getElem?_map,List.getElem?_eq_getElem h];rfl
theorem xn {r:TTour} {j:Nat} (h:j<r.stops.length):(yo ((yB r).take (j+1))).length=(yo ((yB r).take j)).length+1 /\
  List.flatMap AV.cells (yo ((yB r).take (j+1)))=List.flatMap AV.cells (yo ((yB r).take j))++[.int .i64 (r.stops[j]).Job]:=by
 have:yo ((yB r).take (j+1))=yo ((yB r).take j)++[.int .i64 (r.stops[j]).Job]:=by
  unfold yo yB;rw[List.take_add_one,List.getElem?_map,List.getElem?_eq_getElem h,List.map_append];rfl
 rw[this,List.flatMap_append];exact⟨by rw[List.length_append];rfl,rfl⟩
theorem xZ {b t:TTail} (hb:b.plan≠[]) (h:kx t b=true):kK b t=t:=by unfold kK;rw[if_neg hb,if_pos h]
theorem XE {b t:TTail} (hb:b.plan≠[]) (h:kx t b=false):kK b t=b:=by unfold kK;rw[if_neg hb,if_neg (by simp[h])]
abbrev N1 (d:TDepot) (l n:Int) (p0_ p1_ p2_:List AV) (p3_ p4_:Int) (p5_:AV) (p6_:List AV) (p7_ p8_:Int) (p9_:ByteArray) (p10_ p11_ p12_ p13_ p14_ p15_ p16_ p17_ p18_ p19_ p20_ p21_ p22_ p23_:Int) (p24_ p25_ p26_ p27_ p28_:List AV) (p29_ p30_ p31_ p32_ p33_:Int) (p34_:List AV) (p35_ p36_ p37_:Int) (p38_:Nat->List AV->Prop) (p39_:Nat):Prop :=
 ∃(I64:Nat->List AV->Prop),(∃m66,I64 m66 [iN 0,.slc 3 []])/\∀(m66:Nat) (n67:Int) (es68:List AV),I64 m66 [iN n67,.slc 3 es68]->(decide (n67<(↑p0_.length:Int))=true->∃n72 n73 n74 n75,((0:Int)<=n67/\(4:Nat)=(4:Nat)/\p0_[n67.toNat]? = some (.agg [iN n72,iN n73,iN n74,iN n75]))/\yA (1:Nat) [iN n72]/\((List.flatMap AV.cells es68).length=es68.length*1/\(es68.length+1+(512:Nat))*41<=(1125899906842624:Nat)/\yw [iN n72]=true/\yw (List.flatMap AV.cells es68)=true)/\yn [AV.iface 1000000 (.slc 3 p1_)]/\yn [AV.eptr [AV.eptr d.cs (0:Nat),.map (0:Nat),AV.fn (47:FuncId) [] []] (0:Nat)]/\yn [iN l]/\TTail.z0=TTail.z0/\yn [iN l,iN n]/\yn [AV.slc 3 p2_,iN p3_,iN p4_]/\yn [AV.slc 4 (p5_::p6_),iN p7_,iN p8_]/\yn [AV.str p9_,iN p10_,iN p11_,iN p12_,iN p13_,iN p14_,.eptr [iN p15_,iN p16_,iN p17_,iN p18_,iN p19_,iN p20_,iN p21_,iN p22_,iN p23_,.slc 3 p24_,.slc 3 p25_,.slc 3 p26_,.slc 3 p27_,.slc 3 p28_] (0:Nat),iN p29_,iN p30_,.slc 3 p0_,iN p31_,iN p32_,iN p33_]/\yn [AV.slc 3 p34_,iN p35_,iN p36_]/\yn [AV.slc 0 [],iN (wrap i64 (p33_+p35_)),iN (wrap i64 (p37_+p36_))]/\yn [AV.slc 0 [],iN (wrap i64 (p33_+p35_)),iN (wrap i64 (p37_+p36_))]/\yn [AV.slc 4 (p5_::p6_),iN p7_,iN p8_]/\∃es91,(es91.length=es68.length+1/\List.flatMap AV.cells es91=List.flatMap AV.cells es68++[iN n72])/\∃k93,k93<m66/\I64 k93 [iN (wrap i64 (n67+1)),.slc 3 es91])/\(decide (n67<(↑p0_.length:Int))=false->((0:Nat)+es68.length*1<=(List.flatMap AV.cells es68).length/\yw (List.flatMap AV.cells es68)=true)/\∃es73,(es73.length=es68.length/\List.flatMap AV.cells es73=List.drop (0:Nat) (List.flatMap AV.cells es68)/\kg (1:Nat) (yp Tryz.prog (3:Nat)) es73)/\yA (1:Nat) p34_/\((1:Nat)=(1:Nat)/\((1:Nat)+p34_.length+512)*121<=(1125899906842624:Nat)/\yw (List.flatMap AV.cells p34_)=true/\yw [AV.slc 3 es73]=true)/\((0:Nat)+((1:Nat)+p34_.length)*1<=(.slc 3 es73::(List.flatMap AV.cells p34_)).length/\yw (.slc 3 es73::(List.flatMap AV.cells p34_))=true)/\∃es78,(es78.length=(1:Nat)+p34_.length/\List.flatMap AV.cells es78=AV.slc 3 es73::(List.flatMap AV.cells p34_)/\kg (1:Nat) (yp Tryz.prog (41:Nat)) es78)/\yn [AV.eptr [AV.eptr d.cs (0:Nat),.map (0:Nat),AV.fn (47:FuncId) [] []] (0:Nat)]/\yn [iN l]/\TTail.z0=TTail.z0/\yn [iN l,iN n]/\yn [AV.slc 3 p2_,iN p3_,iN p4_]/\p38_ (p39_+2) [AV.agg [AV.slc 3 es78,iN (wrap i64 (p33_+p35_)),iN (wrap i64 (p37_+p36_))],.agg [AV.iface 1000000 (.slc 3 p1_)]])
def R48 (d:TDepot) (M:List AV) (l n:Int) (S:SpecF) (_Fr:FreshF) (Sq:SeqF) (Q:ym):Prop :=
 ((l == (↑(List.map TRoLorry.av d.RoTask.Lorries).length:Int))=true->Q (TTail.zero.av) [[AV.iface 1000000 (.slc 3 M)]])/\((l == (↑(List.map TRoLorry.av d.RoTask.Lorries).length:Int))=false->kX Tryz.prog (67:Nat) M/\xP Tryz.prog (67:Nat) (.agg [iN l,iN n])/\∃es4 n5 n6 f7,ur (TTail.zero.av) M (.agg [iN l,iN n]) f7 (.agg [AV.slc 3 es4,iN n5,iN n6])/\(f7=true->Q (.agg [AV.slc 3 es4,iN n5,iN n6]) [[AV.iface 1000000 (.slc 3 M)]])/\(f7=false->∃xs11,Sq (125:Nat) [AV.ref 0 0,.ref 1 0,.ref 2 0] [[AV.eptr [AV.eptr d.cs (0:Nat),.undef,AV.fn (47:FuncId) [] []] (0:Nat)],[iN l],[iN n]] xs11/\(∀(x14:List AV),x14∈xs11->qZ [AV.agg [AV.str (ByteArray.mk #[]),iN 0,iN 0,iN 0,iN 0,iN 0,.eptr TDepot.zero.cs (0:Nat),iN 0,iN 0,.slc 3 [],iN 0,iN 0,iN 0],iN 0] x14=true/\AV.zi x14=true)/\(xs11=[]->kX Tryz.prog (67:Nat) M/\xP Tryz.prog (67:Nat) (.agg [iN l,iN n])/\∃es'18,x5 M (.agg [iN l,iN n]) (TTail.zero.av) es'18/\Q (TTail.zero.av) [[AV.iface 1000000 (.slc 3 es'18)]])/\∃(I15:Nat->List AV->Prop),(∀(s17:ByteArray) (n18 n19 n20 n21 n22 n23 n24 n25 n26 n27 n28 n29 n30 n31:Int) (es32 es33 es34 es35 es36:List AV) (n37 n38:Int) (es39:List AV) (n40 n41 n42 n43:Int),xs11[(0:Nat)]? = some [AV.agg [AV.str s17,iN n18,iN n19,iN n20,iN n21,iN n22,.eptr [iN n23,iN n24,iN n25,iN n26,iN n27,iN n28,iN n29,iN n30,iN n31,.slc 3 es32,.slc 3 es33,.slc 3 es34,.slc 3 es35,.slc 3 es36] (0:Nat),iN n37,iN n38,.slc 3 es39,iN n40,iN n41,iN n42],iN n43]->∃es45 n46 n47 es48,S 48 [AV.eptr [AV.eptr d.cs (0:Nat),.map (0:Nat),AV.fn (47:FuncId) [] []] (0:Nat),iN (wrap i64 (l+1)),iN n43] [[AV.iface 1000000 (.slc 3 M)]] (.agg [AV.slc 3 es45,iN n46,iN n47]) [[AV.iface 1000000 (.slc 3 es48)]]/\∃n50,S 100 [AV.ref 0 0] [[AV.str s17,iN n18,iN n19,iN n20,iN n21,iN n22,.eptr [iN n23,iN n24,iN n25,iN n26,iN n27,iN n28,iN n29,iN n30,iN n31,.slc 3 es32,.slc 3 es33,.slc 3 es34,.slc 3 es35,.slc 3 es36] (0:Nat),iN n37,iN n38,.slc 3 es39,iN n40,iN n41,iN n42]] (iN n50) [[AV.str s17,iN n18,iN n19,iN n20,iN n21,iN n22,.eptr [iN n23,iN n24,iN n25,iN n26,iN n27,iN n28,iN n29,iN n30,iN n31,.slc 3 es32,.slc 3 es33,.slc 3 es34,.slc 3 es35,.slc 3 es36] (0:Nat),iN n37,iN n38,.slc 3 es39,iN n40,iN n41,iN n42]]/\∃(I52:Nat->List AV->Prop),(∃m54,I52 m54 [iN 0,.slc 3 []])/\∀(m54:Nat) (n55:Int) (es56:List AV),I52 m54 [iN n55,.slc 3 es56]->(decide (n55<(↑es39.length:Int))=true->∃n60 n61 n62 n63,((0:Int)<=n55/\(4:Nat)=(4:Nat)/\es39[n55.toNat]? = some (.agg [iN n60,iN n61,iN n62,iN n63]))/\yA (1:Nat) [iN n60]/\((List.flatMap AV.cells es56).length=es56.length*1/\(es56.length+1+(512:Nat))*41<=(1125899906842624:Nat)/\yw [iN n60]=true/\yw (List.flatMap AV.cells es56)=true)/\yn [AV.iface 1000000 (.slc 3 es48)]/\yn [AV.eptr [AV.eptr d.cs (0:Nat),.map (0:Nat),AV.fn (47:FuncId) [] []] (0:Nat)]/\yn [iN l]/\TTail.z0=TTail.z0/\yn [iN l,iN n]/\yn [AV.slc 3 es4,iN n5,iN n6]/\TTail.z0=TTail.z0/\yn [AV.str s17,iN n18,iN n19,iN n20,iN n21,iN n22,.eptr [iN n23,iN n24,iN n25,iN n26,iN n27,iN n28,iN n29,iN n30,iN n31,.slc 3 es32,.slc 3 es33,.slc 3 es34,.slc 3 es35,.slc 3 es36] (0:Nat),iN n37,iN n38,.slc 3 es39,iN n40,iN n41,iN n42]/\yn [AV.slc 3 es45,iN n46,iN n47]/\yn [AV.slc 0 [],iN (wrap i64 (n42+n46)),iN (wrap i64 (n50+n47))]/\∃es77,(es77.length=es56.length+1/\List.flatMap AV.cells es77=List.flatMap AV.cells es56++[iN n60])/\∃k79,k79<m54/\I52 k79 [iN (wrap i64 (n55+1)),.slc 3 es77])/\(decide (n55<(↑es39.length:Int))=false->((0:Nat)+es56.length*1<=(List.flatMap AV.cells es56).length/\yw (List.flatMap AV.cells es56)=true)/\∃es61,(es61.length=es56.length/\List.flatMap AV.cells es61=List.drop (0:Nat) (List.flatMap AV.cells es56)/\kg (1:Nat) (yp Tryz.prog (3:Nat)) es61)/\yA (1:Nat) es45/\((1:Nat)=(1:Nat)/\((1:Nat)+es45.length+512)*121<=(1125899906842624:Nat)/\yw (List.flatMap AV.cells es45)=true/\yw [AV.slc 3 es61]=true)/\((0:Nat)+((1:Nat)+es45.length)*1<=(.slc 3 es61::(List.flatMap AV.cells es45)).length/\yw (.slc 3 es61::(List.flatMap AV.cells es45))=true)/\∃es66,(es66.length=(1:Nat)+es45.length/\List.flatMap AV.cells es66=AV.slc 3 es61::(List.flatMap AV.cells es45)/\kg (1:Nat) (yp Tryz.prog (41:Nat)) es66)/\yn [AV.eptr [AV.eptr d.cs (0:Nat),.map (0:Nat),AV.fn (47:FuncId) [] []] (0:Nat)]/\yn [iN l]/\TTail.z0=TTail.z0/\yn [iN l,iN n]/\yn [AV.slc 3 es4,iN n5,iN n6]/\I15 (1:Nat) [AV.agg [AV.slc 3 es66,iN (wrap i64 (n42+n46)),iN (wrap i64 (n50+n47))],.agg [AV.iface 1000000 (.slc 3 es48)]]))/\(∀(i18:Nat) (s19:ByteArray) (n20 n21 n22 n23 n24 n25 n26 n27 n28 n29 n30 n31 n32 n33:Int) (es34 es35 es36 es37 es38:List AV) (n39 n40:Int) (es41:List AV) (n42 n43 n44 n45:Int),xs11[i18+(1:Nat)]? = some [AV.agg [AV.str s19,iN n20,iN n21,iN n22,iN n23,iN n24,.eptr [iN n25,iN n26,iN n27,iN n28,iN n29,iN n30,iN n31,iN n32,iN n33,.slc 3 es34,.slc 3 es35,.slc 3 es36,.slc 3 es37,.slc 3 es38] (0:Nat),iN n39,iN n40,.slc 3 es41,iN n42,iN n43,iN n44],iN n45]->∀(es47:List AV) (n48 n49:Int) (es50:List AV),I15 (i18+1) [AV.agg [AV.slc 3 es47,iN n48,iN n49],.agg [AV.iface 1000000 (.slc 3 es50)]]->∃es52 n53 n54 es55,S 48 [AV.eptr [AV.eptr d.cs (0:Nat),.map (0:Nat),AV.fn (47:FuncId) [] []] (0:Nat),iN (wrap i64 (l+1)),iN n45] [[AV.iface 1000000 (.slc 3 es50)]] (.agg [AV.slc 3 es52,iN n53,iN n54]) [[AV.iface 1000000 (.slc 3 es55)]]/\∃n57,S 100 [AV.ref 0 0] [[AV.str s19,iN n20,iN n21,iN n22,iN n23,iN n24,.eptr [iN n25,iN n26,iN n27,iN n28,iN n29,iN n30,iN n31,iN n32,iN n33,.slc 3 es34,.slc 3 es35,.slc 3 es36,.slc 3 es37,.slc 3 es38] (0:Nat),iN n39,iN n40,.slc 3 es41,iN n42,iN n43,iN n44]] (iN n57) [[AV.str s19,iN n20,iN n21,iN n22,iN n23,iN n24,.eptr [iN n25,iN n26,iN n27,iN n28,iN n29,iN n30,iN n31,iN n32,iN n33,.slc 3 es34,.slc 3 es35,.slc 3 es36,.slc 3 es37,.slc 3 es38] (0:Nat),iN n39,iN n40,.slc 3 es41,iN n42,iN n43,iN n44]]/\∃v59:AV,∃r60,es47=v59::r60/\(decide (wrap i64 (n44+n53)>n48)=true->N1 d l n es41 es55 es4 n5 n6 v59 r60 n48 n49 s19 n20 n21 n22 n23 n24 n25 n26 n27 n28 n29 n30 n31 n32 n33 es34 es35 es36 es37 es38 n39 n40 n42 n43 n44 es52 n53 n54 n57 I15 i18)/\(decide (wrap i64 (n44+n53)>n48)=false->((wrap i64 (n44+n53) == n48)=true->((!decide (wrap i64 (n57+n54)<n49))=true->yn [AV.eptr [AV.eptr d.cs (0:Nat),.map (0:Nat),AV.fn (47:FuncId) [] []] (0:Nat)]/\yn [iN l]/\TTail.z0=TTail.z0/\yn [iN l,iN n]/\yn [AV.slc 3 es4,iN n5,iN n6]/\I15 (i18+2) [AV.agg [AV.slc 3 (v59::r60),iN n48,iN n49],.agg [AV.iface 1000000 (.slc 3 es55)]])/\((!decide (wrap i64 (n57+n54)<n49))=false->N1 d l n es41 es55 es4 n5 n6 v59 r60 n48 n49 s19 n20 n21 n22 n23 n24 n25 n26 n27 n28 n29 n30 n31 n32 n33 es34 es35 es36 es37 es38 n39 n40 n42 n43 n44 es52 n53 n54 n57 I15 i18))/\((wrap i64 (n44+n53) == n48)=false->yn [AV.eptr [AV.eptr d.cs (0:Nat),.map (0:Nat),AV.fn (47:FuncId) [] []] (0:Nat)]/\yn [iN l]/\TTail.z0=TTail.z0/\yn [iN l,iN n]/\yn [AV.slc 3 es4,iN n5,iN n6]/\I15 (i18+2) [AV.agg [AV.slc 3 (v59::r60),iN n48,iN n49],.agg [AV.iface 1000000 (.slc 3 es55)]])))/\∀(es18:List AV) (n19 n20:Int) (es21:List AV),I15 xs11.length [AV.agg [AV.slc 3 es18,iN n19,iN n20],.agg [AV.iface 1000000 (.slc 3 es21)]]->kX Tryz.prog (67:Nat) es21/\xP Tryz.prog (67:Nat) (.agg [iN l,iN n])/\∃es'25,x5 es21 (.agg [iN l,iN n]) (.agg [AV.slc 3 es18,iN n19,iN n20]) es'25/\Q (.agg [AV.slc 3 es18,iN n19,iN n20]) [[AV.iface 1000000 (.slc 3 es'25)]]))
theorem s48 (d:TDepot) (M:List AV) (l:Int) (n:Int) (v:AV) (O:List (List AV)) (h:R48 d M l n Sp Fo So (fun r O'=>r=v/\O'=O)):Sp 48 [.eptr [d.ptr,.map 0,.fn 47 [] []] 0,iN l,iN n] [[.iface 1000000 (.slc 3 M)]] v O :=
 yj (w:=⟨[],[],[100,997000000],[(99,⟨[0,1,2,3,4,5,6],[],[],[]⟩),(47,⟨[0,1,2,3,4],[],[],[]⟩)],[92]⟩) (k:=4) (keep:=⟨[0,1,2,3,4,6,7,8,9,10,11,12,13,14,15,17,28,42,47,48,49,77,79,80,81,82],[⟨11,[],[],[(10,.agg [.slc 3 [],iN 0,iN 0]),(1000000,.agg [.iface 1000000 (.slc 3 [])])],[],[.agg [.str default,iN 0,iN 0,iN 0,iN 0,iN 0,.eptr [iN 0,iN 0,iN 0,iN 0,iN 0,iN 0,iN 0,iN 0,iN 0,.slc 3 [],.slc 3 [],.slc 3 [],.slc 3 [],.slc 3 []] 0,iN 0,iN 0,.slc 3 [],iN 0,iN 0,iN 0],iN 0],[[]]⟩,⟨16,[(81,iN 0)],[(15,3)],[],[],[],[]⟩],[],[(13,3500000010),(20,999000015),(21,2000000014)]⟩) (boxes:=[⟨113,false,[.iface 1000000 (.slc 3 M)]⟩]) mixed (by exact⟨Tryz.call99,⟨Tryz.call47,trivial⟩⟩) Tryz.func48 Tryz.call48 rfl rfl rfl (Nat.le_of_ble_eq_true rfl) (by kernel_rfl) h
def y6 (d:TDepot) (k l:Nat) (b:TTail) (p:TTour × Int):TTail:=kK b (qA d p.1 (yN d k (l+1) p.2))
def kO (d:TDepot) (k l:Nat) (L:List (Nat × Int)) (p:TTour × Int):List (Nat × Int):=jv d k (l+1) p.2 L
theorem Mc (d:TDepot) (hd:W5 d) (hN:d.RoTask.Lorries.length<=1000):∀(k l:Nat) (n:Int) (L:List (Nat × Int)),l+k=d.RoTask.Lorries.length->0<=n->n<64->L.Nodup->(∀q∈L,vu q) ->
  Sp 48 [.eptr [d.ptr,.map 0,.fn 47 [] []] 0,.int .i64 l,.int .i64 n] [[.iface 1000000 (.slc 3 (L.map (x8 d)))]] (yN d k l n).av [[.iface 1000000 (.slc 3 ((jv d k l n L).map (x8 d)))]]:=by
 have hjl:=hd.jl;intro k;induction k with
 |zero =>
  intro l n L hl h0 h1 hnd hk;refine s48 d _ l n _ _ ?_;unfold R48 N1;exact⟨fun _=>⟨rfl,rfl⟩,fun h=>by rw[List.length_map,<- hl] at h;simp at h⟩
 |succ k ih =>
  intro l n L hl h0 h1 hnd hk;refine s48 d _ l n _ _ ?_;unfold R48 N1;refine⟨fun h=>by rw[List.length_map,beq_iff_eq] at h;omega,fun _=>?_⟩;have hkey:vu (l,n):=⟨by show l<=1000;omega,h0,h1⟩;have hbt:TR d l n=yN d (k+1) l n:=by unfold TR;rw[show d.RoTask.Lorries.length-l=k+1 by omega]
  refine⟨Sn d hk,vV hkey,?_⟩;by_cases hc:(l,n)∈L
  ·refine⟨_,_,_,true,DO (d:=d) hnd hc _,fun _=>⟨?_,?_⟩,fun h=>by cases h⟩
   ·rw[<- hbt];rfl
   ·have:jv d (k+1) l n L=L:=by unfold jv;rw[if_pos hc]
    rw[this]
  refine⟨[],0,0,false,JE (d:=d) hc _,fun h=>(by cases h),fun _=>?_⟩;generalize hG:wZ d 7 (qg d l) n=G;have hin:∀p∈G,_:=fun p hp=>Xw 7 _ _ h0 h1 hjl (by show (-1:Int)<_;omega) p (hG▸hp)
  have hB:yN d (k+1) l n=G.foldl (y6 d k l) TTail.zero:=by rw[<- hG];rfl
  have hM:jv d (k+1) l n L=G.foldl (kO d k l) L++[(l,n)]:=by rw[<- hG];unfold jv;rw[if_neg hc];rfl
  have hseq:=Tg d hd l n (by omega) (by omega) h0 h1;rw[hG] at hseq;have hput:∀b:TTail,b=yN d (k+1) l n->x5 ((G.foldl (kO d k l) L).map (x8 d)) (UX (l,n)) b.av ((jv d (k+1) l n L).map (x8 d)):=by
   rintro b rfl;rw[<- hbt,hM];exact DP (X0 hc)
  have hkM:∀i,∀q∈(G.take i).foldl (kO d k l) L,vu q:=fun i=>Pn hjl (by omega) _ _ (fun p hp=>(hin p (List.mem_of_mem_take hp)).2.2) hk
  have hnM:∀i,((G.take i).foldl (kO d k l) L).Nodup:=fun i=>Wn _ _ hnd
  refine⟨_,hseq,fun x hx=>?_,fun he=>?_,?_⟩
  ·obtain ⟨p,_,rfl⟩:=List.mem_map.1 hx;exact⟨rfl,rfl⟩
  ·have he:G=[]:=List.map_eq_nil_iff.1 he;have:=hput TTail.zero (by rw[hB,he];rfl);rw[he] at this;exact⟨Sn d hk,vV hkey,_,this,by rw[hB,he];rfl,rfl⟩
  refine⟨fun i vs=>vs=[((G.take i).foldl (y6 d k l) TTail.zero).av,.agg [.iface 1000000 (.slc 3 (((G.take i).foldl (kO d k l) L).map (x8 d)))]],?_,?_,?_⟩
  ·intros;rename_i hx;rw[List.getElem?_map] at hx;obtain ⟨p,hp,he⟩:=Option.map_eq_some_iff.1 hx;cases he;obtain ⟨i1,i2,i3,i4⟩:=hin p (List.mem_of_getElem? hp);have hR:(yN d k (l+1) p.2).plan.length<=1000:=Nat.le_trans (vm ..) (by omega);have hJl:(yB p.1).length=p.1.stops.length:=List.length_map ..;have hon:(p.1.on d).stops.length=p.1.stops.length:=rfl;have hJm:p.1.stops.length<=7:=by have:(qg d l).stops.length=0:=rfl;omega
   rw[yx (by omega)];refine⟨_,_,_,_,ih (l+1) p.2 L (by omega) i3 i4 hnd hk,_,KG d p.1 i1,?_⟩;refine⟨fun m vs=>∃j:Nat,vs=[.int .i64 j,.slc 3 (yo ((yB p.1).take j))]/\j<=(yB p.1).length/\m=(yB p.1).length-j,⟨_,0,rfl,by omega,rfl⟩,?_⟩;rintro m _ _ ⟨j,hj,hle,rfl⟩;cases hj;refine⟨fun h3=>?_,fun h3=>?_⟩
   ·have h3:j<p.1.stops.length:=by have:=zt_ h3;rw[List.length_map] at this;omega
    have hs:=vD ((yB p.1).take j) (by rw[List.length_take];omega) (p.1.stops[j]).Job;refine⟨_,_,_,_,⟨by omega,rfl,vC h3⟩,hs.1,hs.2,?_⟩;repeat (refine And.intro rfl ?_)
    exact⟨yo ((yB p.1).take (j+1)),xn h3,_,(by omega:(yB p.1).length-(j+1)<(yB p.1).length-j),j+1,by rw[yx (by omega)],by omega,rfl⟩
   ·have h3:j=(yB p.1).length:=by have:=zf_ h3;rw[List.length_map] at this;omega
    subst h3;rw[List.take_length];obtain ⟨t1,t2,t3,t4⟩:=Yj (yB p.1) (yN d k (l+1) p.2).plan hR;refine⟨(qV _).1,yo (yB p.1),(qV _).2,t1,t2,t3,yC (yB p.1::(yN d k (l+1) p.2).plan),t4,?_⟩;repeat (refine And.intro rfl ?_)
    have hsB:(G.take 1).foldl (y6 d k l) TTail.zero=kK TTail.zero (qA d p.1 (yN d k (l+1) p.2)):=ku hp;have hsM:(G.take 1).foldl (kO d k l) L=jv d k (l+1) p.2 L:=ku hp;show [_,_]=[((G.take 1).foldl (y6 d k l) TTail.zero).av,AV.agg [.iface 1000000 (.slc 3 (((G.take 1).foldl (kO d k l) L).map (x8 d)))]];rw[hsB,hsM];rfl
  ·intro i;intros;rename_i hx es47 n48 n49 es50 hI;rw[List.getElem?_map] at hx;obtain ⟨p,hp,he⟩:=Option.map_eq_some_iff.1 hx;cases he;cases hI;obtain ⟨i1,i2,i3,i4⟩:=hin p (List.mem_of_getElem? hp);have hR:(yN d k (l+1) p.2).plan.length<=1000:=Nat.le_trans (vm ..) (by omega);have hJl:(yB p.1).length=p.1.stops.length:=List.length_map ..;have hon:(p.1.on d).stops.length=p.1.stops.length:=rfl;have hJm:p.1.stops.length<=7:=by have:(qg d l).stops.length=0:=rfl;omega
   have hne:((G.take (i+1)).foldl (y6 d k l) TTail.zero).plan≠[]:=Mt _ _ (.inr fun h=>by
    have h:=congrArg List.length h;have:=(List.getElem?_eq_some_iff.1 hp).1;rw[List.length_take,List.length_nil] at h;omega)
   have hsB:(G.take (i+2)).foldl (y6 d k l) TTail.zero=kK ((G.take (i+1)).foldl (y6 d k l) TTail.zero) (qA d p.1 (yN d k (l+1) p.2)):=ku hp;have hsM:(G.take (i+2)).foldl (kO d k l) L=jv d k (l+1) p.2 ((G.take (i+1)).foldl (kO d k l) L):=ku hp;obtain ⟨a,r,har⟩:=List.exists_cons_of_ne_nil hne;rw[yx (by omega)];refine⟨_,_,_,_,ih (l+1) p.2 _ (by omega) i3 i4 (hnM (i+1)) (hkM (i+1)),_,KG d p.1 i1,_,_,by rw[har];rfl,fun g1=>?_,fun g1=>⟨fun g2=>⟨fun g3=>?_,fun g3=>?_⟩,fun g2=>?_⟩⟩
   ·have hb:kx (qA d p.1 (yN d k (l+1) p.2)) ((G.take (i+1)).foldl (y6 d k l) TTail.zero)=true:=by
     show (_ || _)=true;rw[show decide ((qA d p.1 (yN d k (l+1) p.2)).value>((G.take (i+1)).foldl (y6 d k l) TTail.zero).value)=true from g1];rfl
    refine⟨fun m vs=>∃j:Nat,vs=[.int .i64 j,.slc 3 (yo ((yB p.1).take j))]/\j<=(yB p.1).length/\m=(yB p.1).length-j,⟨_,0,rfl,by omega,rfl⟩,?_⟩;rintro m _ _ ⟨j,hj,hle,rfl⟩;cases hj;refine⟨fun h3=>?_,fun h3=>?_⟩
    ·have h3:j<p.1.stops.length:=by have:=zt_ h3;rw[List.length_map] at this;omega
     have hs:=vD ((yB p.1).take j) (by rw[List.length_take];omega) (p.1.stops[j]).Job;refine⟨_,_,_,_,⟨by omega,rfl,vC h3⟩,hs.1,hs.2,?_⟩;repeat (refine And.intro rfl ?_)
     exact⟨yo ((yB p.1).take (j+1)),xn h3,_,(by omega:(yB p.1).length-(j+1)<(yB p.1).length-j),j+1,by rw[yx (by omega)],by omega,rfl⟩
    ·have h3:j=(yB p.1).length:=by have:=zf_ h3;rw[List.length_map] at this;omega
     subst h3;rw[List.take_length];obtain ⟨t1,t2,t3,t4⟩:=Yj (yB p.1) (yN d k (l+1) p.2).plan hR;refine⟨(qV _).1,yo (yB p.1),(qV _).2,t1,t2,t3,yC (yB p.1::(yN d k (l+1) p.2).plan),t4,?_⟩;repeat (refine And.intro rfl ?_)
     show [_,_]=[((G.take (i+2)).foldl (y6 d k l) TTail.zero).av,AV.agg [.iface 1000000 (.slc 3 (((G.take (i+2)).foldl (kO d k l) L).map (x8 d)))]];rw[hsB,xZ hne hb,hsM];rfl
   ·have hb:kx (qA d p.1 (yN d k (l+1) p.2)) ((G.take (i+1)).foldl (y6 d k l) TTail.zero)=false:=by
     show (_ || (_ && _))=false;rw[show decide ((qA d p.1 (yN d k (l+1) p.2)).value>((G.take (i+1)).foldl (y6 d k l) TTail.zero).value)=false from g1,show decide ((qA d p.1 (yN d k (l+1) p.2)).cost<((G.take (i+1)).foldl (y6 d k l) TTail.zero).cost)=false from (by rw[Bool.not_eq_true'] at g3;exact g3),Bool.and_false];rfl
    repeat (refine And.intro rfl ?_)
    show [_,_]=[((G.take (i+2)).foldl (y6 d k l) TTail.zero).av,AV.agg [.iface 1000000 (.slc 3 (((G.take (i+2)).foldl (kO d k l) L).map (x8 d)))]];rw[hsB,XE hne hb,hsM];show _=[AV.agg [.slc 3 (yC _),_,_],_];rw[har];rfl
   ·have hb:kx (qA d p.1 (yN d k (l+1) p.2)) ((G.take (i+1)).foldl (y6 d k l) TTail.zero)=true:=by
     show (_ || (_ && _))=true;rw[show ((qA d p.1 (yN d k (l+1) p.2)).value == ((G.take (i+1)).foldl (y6 d k l) TTail.zero).value)=true from g2,show decide ((qA d p.1 (yN d k (l+1) p.2)).cost<((G.take (i+1)).foldl (y6 d k l) TTail.zero).cost)=true from (by rw[Bool.not_eq_false'] at g3;exact g3),Bool.and_true,Bool.or_true]
    refine⟨fun m vs=>∃j:Nat,vs=[.int .i64 j,.slc 3 (yo ((yB p.1).take j))]/\j<=(yB p.1).length/\m=(yB p.1).length-j,⟨_,0,rfl,by omega,rfl⟩,?_⟩;rintro m _ _ ⟨j,hj,hle,rfl⟩;cases hj;refine⟨fun h3=>?_,fun h3=>?_⟩
    ·have h3:j<p.1.stops.length:=by have:=zt_ h3;rw[List.length_map] at this;omega
     have hs:=vD ((yB p.1).take j) (by rw[List.length_take];omega) (p.1.stops[j]).Job;refine⟨_,_,_,_,⟨by omega,rfl,vC h3⟩,hs.1,hs.2,?_⟩;repeat (refine And.intro rfl ?_)
     exact⟨yo ((yB p.1).take (j+1)),xn h3,_,(by omega:(yB p.1).length-(j+1)<(yB p.1).length-j),j+1,by rw[yx (by omega)],by omega,rfl⟩
    ·have h3:j=(yB p.1).length:=by have:=zf_ h3;rw[List.length_map] at this;omega
     subst h3;rw[List.take_length];obtain ⟨t1,t2,t3,t4⟩:=Yj (yB p.1) (yN d k (l+1) p.2).plan hR;refine⟨(qV _).1,yo (yB p.1),(qV _).2,t1,t2,t3,yC (yB p.1::(yN d k (l+1) p.2).plan),t4,?_⟩;repeat (refine And.intro rfl ?_)
     show [_,_]=[((G.take (i+2)).foldl (y6 d k l) TTail.zero).av,AV.agg [.iface 1000000 (.slc 3 (((G.take (i+2)).foldl (kO d k l) L).map (x8 d)))]];rw[hsB,xZ hne hb,hsM];rfl
   ·have hb:kx (qA d p.1 (yN d k (l+1) p.2)) ((G.take (i+1)).foldl (y6 d k l) TTail.zero)=false:=by
     show (_ || (_ && _))=false;rw[show decide ((qA d p.1 (yN d k (l+1) p.2)).value>((G.take (i+1)).foldl (y6 d k l) TTail.zero).value)=false from g1,show ((qA d p.1 (yN d k (l+1) p.2)).value == ((G.take (i+1)).foldl (y6 d k l) TTail.zero).value)=false from g2,Bool.false_and];rfl
    repeat (refine And.intro rfl ?_)
    show [_,_]=[((G.take (i+2)).foldl (y6 d k l) TTail.zero).av,AV.agg [.iface 1000000 (.slc 3 (((G.take (i+2)).foldl (kO d k l) L).map (x8 d)))]];rw[hsB,XE hne hb,hsM];show _=[AV.agg [.slc 3 (yC _),_,_],_];rw[har];rfl
  ·intro es18 n19 n20 es21 hI;rw[List.length_map,List.take_length] at hI;have h2:=hput _ hB.symm;have h3:=hkM G.length;rw[List.take_length] at h3;cases hI;exact⟨Sn d h3,vV hkey,_,h2,by rw[hB];rfl,rfl⟩
end Go.Proofs.YtdeeekgohhkdbaaGreatDoor

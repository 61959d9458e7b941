/- The search for the best plan: what it finds, and what it keeps of it. The search for the best plan, walked. The search for the best plan, walked. -/
import Derived.Test.YtkojpnkknehhmaaGreatDoorSa
namespace Go.Proofs.YtkojpnkknehhmaaGreatDoor
open Go.IntKind (wrap i64 u64)
def ym (r:TTour):List Int:=r.stops.map (·.Job)
def j9 (a b:TTail):Bool:=decide (a.value>b.value) || (a.value == b.value && decide (a.cost<b.cost))
def qq (d:TDepot) (r:TTour) (rest:TTail):TTail:=⟨ym r::rest.plan,wrap i64 (r.value+rest.value),wrap i64 (NA d r+rest.cost)⟩
def ky (b t:TTail):TTail:=if b.plan=[] then t else if j9 t b then t else b
def yy (d:TDepot):Nat->Nat->Int->TTail
 |0,_,_=>TTail.zero
 |k+1,l,n=>(wM d 7 (yF d l) n).foldl (fun b p=>ky b (qq d p.1 (yy d k (l+1) p.2))) TTail.zero
def jh (d:TDepot):Nat->Nat->Int->List (Nat × Int)->List (Nat × Int)
 |0,_,_,L=>L
 |k+1,l,n,L=>if (l,n)∈L then L else (wM d 7 (yF d l) n).foldl (fun L p=>jh d k (l+1) p.2 L) L++[(l,n)]
def Tw (d:TDepot) (l:Nat) (n:Int):TTail:=yy d (d.RoTask.Lorries.length-l) l n
def Uv (q:Nat × Int):AV:=.agg [.int .i64 q.1,.int .i64 q.2]
def xS (d:TDepot) (q:Nat × Int):AV:=.agg [Uv q,(Tw d q.1 q.2).av]
theorem KP (a b:Int) (ha:(Lit.int .i64 a).wf=true) (hb:(Lit.int .i64 b).wf=true):∃l,keyOf Tryz.prog 32 (.agg #[.int .i64 a,.int .i64 b])=some l:=by
 have hu:Tryz.prog.underlying 32=some (.array 2 3):=by kernel_rfl
 have h3:Tryz.prog.underlying 3=some (.int .i64):=by kernel_rfl
 have c2:Tryz.prog.cellsOf 32=2:=by kernel_rfl
 have c1:Tryz.prog.cellsOf 3=1:=by kernel_rfl
 have hk:Tryz.prog.keyType 32=true:=by kernel_rfl
 have hf:(Value.agg #[.int .i64 a,.int .i64 b]).formed Tryz.prog 32=true:=by kernel_rfl
 obtain ⟨e,he⟩:∃e,Tryz.prog.types.size=e+1:=⟨Tryz.prog.types.size-1,by kernel_rfl⟩;unfold keyOf;rw[hu];dsimp only;rw[hk,hf,he];have hl:∀n:Int,(Lit.int .i64 n).wf=true->Tryz.prog.keyLits (e+1) 3 [.int .i64 n]=some [.int .i64 n]:=fun n hn=>by
  unfold Program.keyLits;rw[h3];simp[hn]
 have:Tryz.prog.keyLits (e+1+1) 32 (Value.agg #[.int .i64 a,.int .i64 b]).cells.toList=some [.int .i64 a,.int .i64 b]:=by
  show Tryz.prog.keyLits (e+1+1) 32 [.int .i64 a,.int .i64 b]=_;unfold Program.keyLits;rw[hu];simp[c2,c1,List.range_succ,hl a ha,hl b hb]
 rw[this];exact⟨_,rfl⟩
theorem D9 (c:Value):PS Tryz.prog 32 c=(Tryz.prog.keyTypeAt 2 32=true/\Tryz.prog.tiled 2 32=true/\∃l,keyOf Tryz.prog 32 c=some l):=by kernel_rfl
theorem GL (a b:Int) (ha:(Lit.int .i64 a).wf=true) (hb:(Lit.int .i64 b).wf=true):xu Tryz.prog 32 (.agg [.int .i64 a,.int .i64 b]):=⟨.agg #[.int .i64 a,.int .i64 b],rfl,by rw[D9];exact⟨by kernel_rfl,by kernel_rfl,KP a b ha hb⟩⟩
def vi (q:Nat × Int):Prop:=q.1<=1000/\0<=q.2/\q.2<64
theorem PQ {n:Int} (h0:0<=n) (h1:n<=1000000):(Lit.int .i64 n).wf=true:=by
 simp[Lit.wf,IntKind.min,IntKind.max,IntKind.signed,IntKind.bits];omega
theorem vJ {q:Nat × Int} (h:vi q):xu Tryz.prog 32 (Uv q):=GL _ _ (PQ (by omega) (by have:=h.1;omega)) (PQ h.2.1 (by have:=h.2.2;omega))
theorem TQ (d:TDepot) {L:List (Nat × Int)} (h:∀q∈L,vi q):kK Tryz.prog 32 (L.map (xS d)):=by
 intro x hx;obtain ⟨q,hq,rfl⟩:=List.mem_map.1 hx;exact⟨_,_,rfl,vJ (h q hq)⟩
theorem NL {d:TDepot} {L:List (Nat × Int)} {q:Nat × Int} {j:Nat} {v:AV} (h:(L.map (xS d))[j]? = some (.agg [Uv q,v])):L[j]? = some q/\v=(Tw d q.1 q.2).av:=by
 rw[List.getElem?_map] at h;obtain ⟨q',h1,h2⟩:=Option.map_eq_some_iff.1 h;simp only[xS,Uv,AV.agg.injEq,List.cons.injEq,and_true,AV.int.injEq,true_and] at h2;obtain ⟨⟨h3,h4⟩,h2⟩:=h2;have:q'=q:=Prod.ext (by omega) h4;subst this;exact⟨h1,h2.symm⟩
theorem Uc {d:TDepot} {L:List (Nat × Int)} {q:Nat × Int} {v:AV} (h:AV.agg [Uv q,v]∈L.map (xS d)):q∈L:=by
 obtain ⟨j,hj⟩:=List.mem_iff_getElem?.1 h;exact List.mem_of_getElem? (NL hj).1
theorem zab {d:TDepot} {L:List (Nat × Int)} {q:Nat × Int} (hc:q∉L):xP (L.map (xS d)) (Uv q) (Tw d q.1 q.2).av ((L++[q]).map (xS d)) :=
 .inr ⟨fun v' hm=>hc (Uc hm),by rw[List.map_append];rfl⟩
theorem zaa {d:TDepot} {L:List (Nat × Int)} {q:Nat × Int} (h:L.Nodup) (hc:q∈L) (z:AV):ua z (L.map (xS d)) (Uv q) true (Tw d q.1 q.2).av:=by
 obtain ⟨i,hi⟩:=List.mem_iff_getElem?.1 hc;have hl:i<L.length:=(List.getElem?_eq_some_iff.1 hi).1;exact⟨i,by rw[List.getElem?_map,hi];rfl,fun j v' hj=>((List.getElem?_inj hl h).1 (by rw[hi,(NL hj).1])).symm⟩
theorem K1 {d:TDepot} {L:List (Nat × Int)} {q:Nat × Int} (hc:q∉L) (z:AV):ua z (L.map (xS d)) (Uv q) false z :=
 ⟨fun _v' hm=>hc (Uc hm),rfl⟩
theorem Mh {d:TDepot}:∀(k l:Nat) (n:Int) (L:List (Nat × Int)) (q:Nat × Int),q∈jh d k l n L->q∈L\/l<=q.1:=by
 intro k;induction k with
 |zero=>intro l n L q h;exact .inl h
 |succ k ih =>
  intro l n L q h;unfold jh at h;split at h
  ·exact .inl h
  ·rcases List.mem_append.1 h with h | h
   ·have key:∀(G:List (TTour × Int)) (L:List (Nat × Int)),q∈G.foldl (fun L p=>jh d k (l+1) p.2 L) L->q∈L\/l<=q.1:=by
     intro G;induction G with
     |nil=>intro L h;exact .inl h
     |cons p r ihr =>
      intro L h;rcases ihr _ h with h | h
      ·exact(ih _ _ _ _ h).imp id fun h=>by omega
      ·exact .inr h
    exact key _ _ h
   ·rw[List.mem_singleton] at h;subst h;exact .inr (Nat.le_refl _)
theorem MA {d:TDepot} {k l:Nat} {q:Nat × Int}:∀(G:List (TTour × Int)) (L:List (Nat × Int)),q∈G.foldl (fun L p=>jh d k (l+1) p.2 L) L->q∈L\/l+1<=q.1:=by
 intro G;induction G with
 |nil=>intro L h;exact .inl h
 |cons p r ihr =>
  intro L h;rcases ihr _ h with h | h
  ·exact Mh _ _ _ _ _ h
  ·exact .inr h
theorem XM {d:TDepot} {k l:Nat} {n:Int} {G:List (TTour × Int)} {L:List (Nat × Int)} (h:(l,n)∉L):(l,n)∉G.foldl (fun L p=>jh d k (l+1) p.2 L) L:=fun hm =>
 (MA G L hm).elim h fun h=>by simp at h;omega
theorem Qv {d:TDepot}:∀(k l:Nat) (n:Int) (L:List (Nat × Int)),L.Nodup->(jh d k l n L).Nodup:=by
 intro k;induction k with
 |zero=>intro l n L h;exact h
 |succ k ih =>
  intro l n L h;unfold jh;split
  ·exact h
  ·rename_i hc;have key:∀(G:List (TTour × Int)) (L:List (Nat × Int)),L.Nodup->(G.foldl (fun L p=>jh d k (l+1) p.2 L) L).Nodup:=by
    intro G;induction G with
    |nil=>intro L h;exact h
    |cons p r ihr=>intro L h;exact ihr _ (ih _ _ _ h)
   refine List.nodup_append.2 ⟨key _ _ h,by simp,fun a ha b hb=>?_⟩;rw[List.mem_singleton] at hb;subst hb;rintro rfl;exact XM hc ha
theorem Wg {d:TDepot} {k l:Nat}:∀(G:List (TTour × Int)) (L:List (Nat × Int)),L.Nodup->(G.foldl (fun L p=>jh d k (l+1) p.2 L) L).Nodup:=by
 intro G;induction G with
 |nil=>intro L h;exact h
 |cons p r ihr=>intro L h;exact ihr _ (Qv _ _ _ _ h)
theorem Xc {d:TDepot}:∀(f:Nat) (r:TTour) (n:Int),0<=n->n<64->d.RoTask.Jobs.length<=6->r.last<d.RoTask.Jobs.length->∀p∈wM d f r n,p.1.last<d.RoTask.Jobs.length/\p.1.stops.length<=r.stops.length+f/\0<=p.2/\p.2<64:=by
 intro f;induction f with
 |zero=>intro r n _ _ _ _ p h;cases h
 |succ f ih =>
  intro r n h0 h1 hj hl p h;unfold wM at h;split at h
  ·rcases List.mem_cons.1 h with rfl | h
   ·exact⟨hl,by simp,h0,h1⟩
   ·obtain ⟨j,hj',h⟩:=List.mem_flatMap.1 h;rw[List.mem_range] at hj';split at h
    ·rename_i hc;unfold QG at hc;simp only[Bool.and_eq_true] at hc;obtain ⟨b1,b2,b3⟩:=Nu h0 h1 (by omega) hc.1;obtain ⟨v1,v2⟩:=wy hc.2.2;have:=ih _ _ b1 b2 hj (by rw[v1];omega) p h;rw[v2] at this;exact⟨this.1,by omega,this.2.2⟩
    ·cases h
  ·cases h
theorem IQ {b t:TTail} (h:t.plan≠[]):(ky b t).plan≠[]:=by
 unfold ky;split
 ·exact h
 ·rename_i h2;split
  ·exact h
  ·exact h2
theorem NO {d:TDepot} {k l:Nat}:∀(G:List (TTour × Int)) (b:TTail),b.plan≠[]\/G≠[]->(G.foldl (fun b p=>ky b (qq d p.1 (yy d k l p.2))) b).plan≠[]:=by
 intro G;induction G with
 |nil=>intro b h;exact h.elim id fun h=>absurd rfl h
 |cons p r ih=>intro b _;exact ih _ (.inl (IQ (by simp[qq])))
theorem Jh {b t:TTail} {k:Nat} (h:t.plan.length<=k) (h':b.plan.length<=k):(ky b t).plan.length<=k:=by
 unfold ky;split
 ·exact h
 ·split
  ·exact h
  ·exact h'
theorem xZ {d:TDepot}:∀(k l:Nat) (n:Int),(yy d k l n).plan.length<=k:=by
 intro k;induction k with
 |zero=>intro l n;exact Nat.le_refl _
 |succ k ih =>
  intro l n;have key:∀(G:List (TTour × Int)) (b:TTail),b.plan.length<=k+1->(G.foldl (fun b p=>ky b (qq d p.1 (yy d k (l+1) p.2))) b).plan.length<=k+1:=by
   intro G;induction G with
   |nil=>intro b h;exact h
   |cons p r ihr =>
    intro b h;refine ihr _ ?_;have hj:(qq d p.1 (yy d k (l+1) p.2)).plan.length<=k+1:=by
     have:=ih (l+1) p.2;simp only[qq,List.length_cons];omega
    exact Jh hj h
  exact key _ _ (Nat.zero_le _)
theorem j6 {α β:Type} {f:β->α->β} {b:β} {G:List α} {i:Nat} {p:α} (h:G[i]? = some p):(G.take (i+1)).foldl f b=f ((G.take i).foldl f b) p:=by
 rw[List.take_add_one,h,List.foldl_append];rfl
theorem vd:∀ {l:List AV},(∀v∈l,v.cells=[v])->l.flatMap AV.cells=l
 |[],_=>rfl
 |x::r,h=>by rw[List.flatMap_cons,vd fun v hv=>h v (List.mem_cons_of_mem _ hv),h x List.mem_cons_self];rfl
def yg (l:List Int):List AV:=l.map (AV.int .i64)
def yL (l:List (List Int)):List AV:=l.map fun x=>.slc 3 (yg x)
theorem y9 {l:List Int}:∀v∈yg l,v.cells=[v]:=fun v hv=>by
 obtain ⟨x,_,rfl⟩:=List.mem_map.1 hv;rfl
theorem xi {l:List (List Int)}:∀v∈yL l,v.cells=[v]:=fun v hv=>by
 obtain ⟨x,_,rfl⟩:=List.mem_map.1 hv;rfl
theorem wV (l:List Int):yn (yg l)=true:=List.all_eq_true.2 fun v hv=>by
 obtain ⟨x,_,rfl⟩:=List.mem_map.1 hv;rfl
theorem X2 (l:List (List Int)):yn (yL l)=true:=List.all_eq_true.2 fun v hv=>by
 obtain ⟨x,_,rfl⟩:=List.mem_map.1 hv;rfl
theorem OQ {l:List AV} (h:∀v∈l,v.cells=[v]):yk 1 l:=fun v hv=>by rw[h v hv];rfl
theorem JZ:yf Tryz.prog 3=false:=by kernel_rfl
theorem Hw:yf Tryz.prog 44=false:=by kernel_rfl
theorem SK {l:List AV} (h:∀v∈l,v.cells=[v]):jT 1 false l:=fun v hv=>by
 rw[if_neg Bool.false_ne_true];exact h v hv
theorem Yd (J:List Int) (R:List (List Int)) (hR:R.length<=1000) :
  yk 1 (yL R)/\(1=1/\(1+(yL R).length+512)*121<=1125899906842624/\yn (List.flatMap AV.cells (yL R))=true/\yn [AV.slc 3 (yg J)]=true) /\
   (0+(1+(yL R).length)*1<=(AV.slc 3 (yg J)::List.flatMap AV.cells (yL R)).length/\yn (AV.slc 3 (yg J)::List.flatMap AV.cells (yL R))=true) /\
   ((yL (J::R)).length=1+(yL R).length/\List.flatMap AV.cells (yL (J::R))=AV.slc 3 (yg J)::List.flatMap AV.cells (yL R)/\jT 1 (yf Tryz.prog 44) (yL (J::R))):=by
 have hl:(yL R).length=R.length:=List.length_map ..;rw[vd xi];refine⟨OQ xi,⟨rfl,by omega,X2 R,rfl⟩,⟨by rw[List.length_cons];omega,?_⟩,by rw[hl];simp[yL];omega,?_,?_⟩
 ·exact X2 (J::R)
 ·rw[vd xi];rfl
 ·rw[Hw];exact SK xi
theorem vq (J:List Int) (hJ:J.length<=1000) (x:Int) :
  yk 1 [AV.int .i64 x]/\((List.flatMap AV.cells (yg J)).length=(yg J).length*1/\((yg J).length+1+512)*41<=1125899906842624/\yn [AV.int .i64 x]=true/\yn (List.flatMap AV.cells (yg J))=true):=by
 have hl:(yg J).length=J.length:=List.length_map ..;rw[vd y9];exact⟨fun v hv=>by rw[List.mem_singleton.1 hv];rfl,by omega,by omega,rfl,wV J⟩
theorem qM (J:List Int):(0+(yg J).length*1<=(List.flatMap AV.cells (yg J)).length/\yn (List.flatMap AV.cells (yg J))=true) /\
  ((yg J).length=(yg J).length/\List.flatMap AV.cells (yg J)=List.drop 0 (List.flatMap AV.cells (yg J))/\jT 1 (yf Tryz.prog 3) (yg J)):=by
 rw[vd y9];refine⟨⟨by omega,wV J⟩,rfl,rfl,?_⟩;rw[JZ];exact SK y9
theorem LZ {d:TDepot} (hj:d.RoTask.Jobs.length<=6):∀(k l:Nat) (n:Int) (L:List (Nat × Int)),l+k<=1000->0<=n->n<64->(∀q∈L,vi q)->∀q∈jh d k l n L,vi q:=by
 intro k;induction k with
 |zero=>intro l n L _ _ _ h;exact h
 |succ k ih =>
  intro l n L hl h0 h1 h;unfold jh;split
  ·exact h
  ·have key:∀(G:List (TTour × Int)) (L:List (Nat × Int)),(∀p∈G,0<=p.2/\p.2<64)->(∀q∈L,vi q)->∀q∈G.foldl (fun L p=>jh d k (l+1) p.2 L) L,vi q:=by
    intro G;induction G with
    |nil=>intro L _ h;exact h
    |cons p r ihr=>intro L hp h;exact ihr _ (fun p' hp'=>hp p' (List.mem_cons_of_mem _ hp')) (ih _ _ _ (by omega) (hp p List.mem_cons_self).1 (hp p List.mem_cons_self).2 h)
   intro q hq;rcases List.mem_append.1 hq with hq | hq
   ·exact key _ _ (fun p hp=>(Xc 7 _ _ h0 h1 hj (by show (-1:Int)<_;omega) p hp).2.2) h q hq
   ·rw[List.mem_singleton.1 hq];exact⟨by show l<=1000;omega,h0,h1⟩
theorem QX {d:TDepot} (hj:d.RoTask.Jobs.length<=6) {k l:Nat} (hl:l+1+k<=1000):∀(G:List (TTour × Int)) (L:List (Nat × Int)),(∀p∈G,0<=p.2/\p.2<64)->(∀q∈L,vi q)->∀q∈G.foldl (fun L p=>jh d k (l+1) p.2 L) L,vi q:=by
 intro G;induction G with
 |nil=>intro L _ h;exact h
 |cons p r ihr=>intro L hp h;exact ihr _ (fun p' hp'=>hp p' (List.mem_cons_of_mem _ hp')) (LZ hj _ _ _ _ hl (hp p List.mem_cons_self).1 (hp p List.mem_cons_self).2 h)
theorem vp {S:List TRoStop} {j:Nat} (h:j<S.length):(S.map TRoStop.av)[((j:Nat):Int).toNat]? = some (S[j]).av:=by
 rw[Int.toNat_natCast,List.getElem?_map,List.getElem?_eq_getElem h];rfl
theorem wW {r:TTour} {j:Nat} (h:j<r.stops.length):(yg ((ym r).take (j+1))).length=(yg ((ym r).take j)).length+1 /\
  List.flatMap AV.cells (yg ((ym r).take (j+1)))=List.flatMap AV.cells (yg ((ym r).take j))++[.int .i64 (r.stops[j]).Job]:=by
 have:yg ((ym r).take (j+1))=yg ((ym r).take j)++[.int .i64 (r.stops[j]).Job]:=by
  unfold yg ym;rw[List.take_add_one,List.getElem?_map,List.getElem?_eq_getElem h,List.map_append];rfl
 rw[this,List.flatMap_append];exact⟨by rw[List.length_append];rfl,rfl⟩
theorem xI {b t:TTail} (hb:b.plan≠[]) (h:j9 t b=true):ky b t=t:=by unfold ky;rw[if_neg hb,if_pos h]
theorem Xi {b t:TTail} (hb:b.plan≠[]) (h:j9 t b=false):ky b t=b:=by unfold ky;rw[if_neg hb,if_neg (by simp[h])]
abbrev Nj (d:TDepot) (l n:Int) (p0_ p1_ p2_:List AV) (p3_ p4_:Int) (p5_:AV) (p6_:List AV) (p7_ p8_:Int) (p9_:ByteArray) (p10_ p11_ p12_ p13_ p14_ p15_ p16_ p17_ p18_ p19_ p20_ p21_ p22_ p23_:Int) (p24_ p25_ p26_ p27_ p28_:List AV) (p29_ p30_ p31_ p32_ p33_:Int) (p34_:List AV) (p35_ p36_ p37_:Int) (p38_:Nat->List AV->Prop) (p39_:Nat):Prop :=
 ∃(I64:Nat->List AV->Prop),(∃m66,I64 m66 [iN 0,.slc 3 []])/\∀(m66:Nat) (n67:Int) (es68:List AV),I64 m66 [iN n67,.slc 3 es68]->(decide (n67<(↑p0_.length:Int))=true->∃n72 n73 n74 n75,((0:Int)<=n67/\(4:Nat)=(4:Nat)/\p0_[n67.toNat]? = some (.agg [iN n72,iN n73,iN n74,iN n75]))/\yk (1:Nat) [iN n72]/\((List.flatMap AV.cells es68).length=es68.length*1/\(es68.length+1+(512:Nat))*41<=(1125899906842624:Nat)/\yn [iN n72]=true/\yn (List.flatMap AV.cells es68)=true)/\yd [AV.iface 1000000 (.slc 3 p1_)]/\yd [AV.eptr [AV.eptr d.cs (0:Nat),.map (0:Nat),AV.fn (72:FuncId) [] []] (0:Nat)]/\yd [iN l]/\TTail.z0=TTail.z0/\yd [iN l,iN n]/\yd [AV.slc 3 p2_,iN p3_,iN p4_]/\yd [AV.slc 4 (p5_::p6_),iN p7_,iN p8_]/\yd [AV.str p9_,iN p10_,iN p11_,iN p12_,iN p13_,iN p14_,.eptr [iN p15_,iN p16_,iN p17_,iN p18_,iN p19_,iN p20_,iN p21_,iN p22_,iN p23_,.slc 3 p24_,.slc 3 p25_,.slc 3 p26_,.slc 3 p27_,.slc 3 p28_] (0:Nat),iN p29_,iN p30_,.slc 3 p0_,iN p31_,iN p32_,iN p33_]/\yd [AV.slc 3 p34_,iN p35_,iN p36_]/\yd [AV.slc 0 [],iN (wrap i64 (p33_+p35_)),iN (wrap i64 (p37_+p36_))]/\yd [AV.slc 0 [],iN (wrap i64 (p33_+p35_)),iN (wrap i64 (p37_+p36_))]/\yd [AV.slc 4 (p5_::p6_),iN p7_,iN p8_]/\∃es91,(es91.length=es68.length+1/\List.flatMap AV.cells es91=List.flatMap AV.cells es68++[iN n72])/\∃k93,k93<m66/\I64 k93 [iN (wrap i64 (n67+1)),.slc 3 es91])/\(decide (n67<(↑p0_.length:Int))=false->((0:Nat)+es68.length*1<=(List.flatMap AV.cells es68).length/\yn (List.flatMap AV.cells es68)=true)/\∃es73,(es73.length=es68.length/\List.flatMap AV.cells es73=List.drop (0:Nat) (List.flatMap AV.cells es68)/\jT (1:Nat) (yf Tryz.prog (3:Nat)) es73)/\yk (1:Nat) p34_/\((1:Nat)=(1:Nat)/\((1:Nat)+p34_.length+512)*121<=(1125899906842624:Nat)/\yn (List.flatMap AV.cells p34_)=true/\yn [AV.slc 3 es73]=true)/\((0:Nat)+((1:Nat)+p34_.length)*1<=(.slc 3 es73::(List.flatMap AV.cells p34_)).length/\yn (.slc 3 es73::(List.flatMap AV.cells p34_))=true)/\∃es78,(es78.length=(1:Nat)+p34_.length/\List.flatMap AV.cells es78=AV.slc 3 es73::(List.flatMap AV.cells p34_)/\jT (1:Nat) (yf Tryz.prog (44:Nat)) es78)/\yd [AV.eptr [AV.eptr d.cs (0:Nat),.map (0:Nat),AV.fn (72:FuncId) [] []] (0:Nat)]/\yd [iN l]/\TTail.z0=TTail.z0/\yd [iN l,iN n]/\yd [AV.slc 3 p2_,iN p3_,iN p4_]/\p38_ (p39_+2) [AV.agg [AV.slc 3 es78,iN (wrap i64 (p33_+p35_)),iN (wrap i64 (p37_+p36_))],.agg [AV.iface 1000000 (.slc 3 p1_)]])
def R73 (d:TDepot) (M:List AV) (l n:Int) (Q:yc):Prop :=
 ((l == (↑(List.map TRoLorry.av d.RoTask.Lorries).length:Int))=true->Q (TTail.zero.av) [[AV.iface 1000000 (.slc 3 M)]])/\((l == (↑(List.map TRoLorry.av d.RoTask.Lorries).length:Int))=false->kK Tryz.prog (32:Nat) M/\xu Tryz.prog (32:Nat) (.agg [iN l,iN n])/\∃es4 n5 n6 f7,ua (TTail.zero.av) M (.agg [iN l,iN n]) f7 (.agg [AV.slc 3 es4,iN n5,iN n6])/\(f7=true->Q (.agg [AV.slc 3 es4,iN n5,iN n6]) [[AV.iface 1000000 (.slc 3 M)]])/\(f7=false->∃xs11,So (129:Nat) [AV.ref 0 0,.ref 1 0,.ref 2 0] [[AV.eptr [AV.eptr d.cs (0:Nat),.undef,AV.fn (72:FuncId) [] []] (0:Nat)],[iN l],[iN n]] xs11/\(∀(x14:List AV),x14∈xs11->qZ [AV.agg [AV.str (ByteArray.mk #[]),iN 0,iN 0,iN 0,iN 0,iN 0,.eptr TDepot.zero.cs (0:Nat),iN 0,iN 0,.slc 3 [],iN 0,iN 0,iN 0],iN 0] x14=true/\AV.zi x14=true)/\(xs11=[]->kK Tryz.prog (32:Nat) M/\xu Tryz.prog (32:Nat) (.agg [iN l,iN n])/\∃es'18,xP M (.agg [iN l,iN n]) (TTail.zero.av) es'18/\Q (TTail.zero.av) [[AV.iface 1000000 (.slc 3 es'18)]])/\∃(I15:Nat->List AV->Prop),(∀(s17:ByteArray) (n18 n19 n20 n21 n22 n23 n24 n25 n26 n27 n28 n29 n30 n31:Int) (es32 es33 es34 es35 es36:List AV) (n37 n38:Int) (es39:List AV) (n40 n41 n42 n43:Int),xs11[(0:Nat)]? = some [AV.agg [AV.str s17,iN n18,iN n19,iN n20,iN n21,iN n22,.eptr [iN n23,iN n24,iN n25,iN n26,iN n27,iN n28,iN n29,iN n30,iN n31,.slc 3 es32,.slc 3 es33,.slc 3 es34,.slc 3 es35,.slc 3 es36] (0:Nat),iN n37,iN n38,.slc 3 es39,iN n40,iN n41,iN n42],iN n43]->∃es45 n46 n47 es48,Sp 73 [AV.eptr [AV.eptr d.cs (0:Nat),.map (0:Nat),AV.fn (72:FuncId) [] []] (0:Nat),iN (wrap i64 (l+1)),iN n43] [[AV.iface 1000000 (.slc 3 M)]] (.agg [AV.slc 3 es45,iN n46,iN n47]) [[AV.iface 1000000 (.slc 3 es48)]]/\∃n50,Sp 104 [AV.ref 0 0] [[AV.str s17,iN n18,iN n19,iN n20,iN n21,iN n22,.eptr [iN n23,iN n24,iN n25,iN n26,iN n27,iN n28,iN n29,iN n30,iN n31,.slc 3 es32,.slc 3 es33,.slc 3 es34,.slc 3 es35,.slc 3 es36] (0:Nat),iN n37,iN n38,.slc 3 es39,iN n40,iN n41,iN n42]] (iN n50) [[AV.str s17,iN n18,iN n19,iN n20,iN n21,iN n22,.eptr [iN n23,iN n24,iN n25,iN n26,iN n27,iN n28,iN n29,iN n30,iN n31,.slc 3 es32,.slc 3 es33,.slc 3 es34,.slc 3 es35,.slc 3 es36] (0:Nat),iN n37,iN n38,.slc 3 es39,iN n40,iN n41,iN n42]]/\∃(I52:Nat->List AV->Prop),(∃m54,I52 m54 [iN 0,.slc 3 []])/\∀(m54:Nat) (n55:Int) (es56:List AV),I52 m54 [iN n55,.slc 3 es56]->(decide (n55<(↑es39.length:Int))=true->∃n60 n61 n62 n63,((0:Int)<=n55/\(4:Nat)=(4:Nat)/\es39[n55.toNat]? = some (.agg [iN n60,iN n61,iN n62,iN n63]))/\yk (1:Nat) [iN n60]/\((List.flatMap AV.cells es56).length=es56.length*1/\(es56.length+1+(512:Nat))*41<=(1125899906842624:Nat)/\yn [iN n60]=true/\yn (List.flatMap AV.cells es56)=true)/\yd [AV.iface 1000000 (.slc 3 es48)]/\yd [AV.eptr [AV.eptr d.cs (0:Nat),.map (0:Nat),AV.fn (72:FuncId) [] []] (0:Nat)]/\yd [iN l]/\TTail.z0=TTail.z0/\yd [iN l,iN n]/\yd [AV.slc 3 es4,iN n5,iN n6]/\TTail.z0=TTail.z0/\yd [AV.str s17,iN n18,iN n19,iN n20,iN n21,iN n22,.eptr [iN n23,iN n24,iN n25,iN n26,iN n27,iN n28,iN n29,iN n30,iN n31,.slc 3 es32,.slc 3 es33,.slc 3 es34,.slc 3 es35,.slc 3 es36] (0:Nat),iN n37,iN n38,.slc 3 es39,iN n40,iN n41,iN n42]/\yd [AV.slc 3 es45,iN n46,iN n47]/\yd [AV.slc 0 [],iN (wrap i64 (n42+n46)),iN (wrap i64 (n50+n47))]/\∃es77,(es77.length=es56.length+1/\List.flatMap AV.cells es77=List.flatMap AV.cells es56++[iN n60])/\∃k79,k79<m54/\I52 k79 [iN (wrap i64 (n55+1)),.slc 3 es77])/\(decide (n55<(↑es39.length:Int))=false->((0:Nat)+es56.length*1<=(List.flatMap AV.cells es56).length/\yn (List.flatMap AV.cells es56)=true)/\∃es61,(es61.length=es56.length/\List.flatMap AV.cells es61=List.drop (0:Nat) (List.flatMap AV.cells es56)/\jT (1:Nat) (yf Tryz.prog (3:Nat)) es61)/\yk (1:Nat) es45/\((1:Nat)=(1:Nat)/\((1:Nat)+es45.length+512)*121<=(1125899906842624:Nat)/\yn (List.flatMap AV.cells es45)=true/\yn [AV.slc 3 es61]=true)/\((0:Nat)+((1:Nat)+es45.length)*1<=(.slc 3 es61::(List.flatMap AV.cells es45)).length/\yn (.slc 3 es61::(List.flatMap AV.cells es45))=true)/\∃es66,(es66.length=(1:Nat)+es45.length/\List.flatMap AV.cells es66=AV.slc 3 es61::(List.flatMap AV.cells es45)/\jT (1:Nat) (yf Tryz.prog (44:Nat)) es66)/\yd [AV.eptr [AV.eptr d.cs (0:Nat),.map (0:Nat),AV.fn (72:FuncId) [] []] (0:Nat)]/\yd [iN l]/\TTail.z0=TTail.z0/\yd [iN l,iN n]/\yd [AV.slc 3 es4,iN n5,iN n6]/\I15 (1:Nat) [AV.agg [AV.slc 3 es66,iN (wrap i64 (n42+n46)),iN (wrap i64 (n50+n47))],.agg [AV.iface 1000000 (.slc 3 es48)]]))/\(∀(i18:Nat) (s19:ByteArray) (n20 n21 n22 n23 n24 n25 n26 n27 n28 n29 n30 n31 n32 n33:Int) (es34 es35 es36 es37 es38:List AV) (n39 n40:Int) (es41:List AV) (n42 n43 n44 n45:Int),xs11[i18+(1:Nat)]? = some [AV.agg [AV.str s19,iN n20,iN n21,iN n22,iN n23,iN n24,.eptr [iN n25,iN n26,iN n27,iN n28,iN n29,iN n30,iN n31,iN n32,iN n33,.slc 3 es34,.slc 3 es35,.slc 3 es36,.slc 3 es37,.slc 3 es38] (0:Nat),iN n39,iN n40,.slc 3 es41,iN n42,iN n43,iN n44],iN n45]->∀(es47:List AV) (n48 n49:Int) (es50:List AV),I15 (i18+1) [AV.agg [AV.slc 3 es47,iN n48,iN n49],.agg [AV.iface 1000000 (.slc 3 es50)]]->∃es52 n53 n54 es55,Sp 73 [AV.eptr [AV.eptr d.cs (0:Nat),.map (0:Nat),AV.fn (72:FuncId) [] []] (0:Nat),iN (wrap i64 (l+1)),iN n45] [[AV.iface 1000000 (.slc 3 es50)]] (.agg [AV.slc 3 es52,iN n53,iN n54]) [[AV.iface 1000000 (.slc 3 es55)]]/\∃n57,Sp 104 [AV.ref 0 0] [[AV.str s19,iN n20,iN n21,iN n22,iN n23,iN n24,.eptr [iN n25,iN n26,iN n27,iN n28,iN n29,iN n30,iN n31,iN n32,iN n33,.slc 3 es34,.slc 3 es35,.slc 3 es36,.slc 3 es37,.slc 3 es38] (0:Nat),iN n39,iN n40,.slc 3 es41,iN n42,iN n43,iN n44]] (iN n57) [[AV.str s19,iN n20,iN n21,iN n22,iN n23,iN n24,.eptr [iN n25,iN n26,iN n27,iN n28,iN n29,iN n30,iN n31,iN n32,iN n33,.slc 3 es34,.slc 3 es35,.slc 3 es36,.slc 3 es37,.slc 3 es38] (0:Nat),iN n39,iN n40,.slc 3 es41,iN n42,iN n43,iN n44]]/\∃v59:AV,∃r60,es47=v59::r60/\(decide (wrap i64 (n44+n53)>n48)=true->Nj d l n es41 es55 es4 n5 n6 v59 r60 n48 n49 s19 n20 n21 n22 n23 n24 n25 n26 n27 n28 n29 n30 n31 n32 n33 es34 es35 es36 es37 es38 n39 n40 n42 n43 n44 es52 n53 n54 n57 I15 i18)/\(decide (wrap i64 (n44+n53)>n48)=false->((wrap i64 (n44+n53) == n48)=true->((!decide (wrap i64 (n57+n54)<n49))=true->yd [AV.eptr [AV.eptr d.cs (0:Nat),.map (0:Nat),AV.fn (72:FuncId) [] []] (0:Nat)]/\yd [iN l]/\TTail.z0=TTail.z0/\yd [iN l,iN n]/\yd [AV.slc 3 es4,iN n5,iN n6]/\I15 (i18+2) [AV.agg [AV.slc 3 (v59::r60),iN n48,iN n49],.agg [AV.iface 1000000 (.slc 3 es55)]])/\((!decide (wrap i64 (n57+n54)<n49))=false->Nj d l n es41 es55 es4 n5 n6 v59 r60 n48 n49 s19 n20 n21 n22 n23 n24 n25 n26 n27 n28 n29 n30 n31 n32 n33 es34 es35 es36 es37 es38 n39 n40 n42 n43 n44 es52 n53 n54 n57 I15 i18))/\((wrap i64 (n44+n53) == n48)=false->yd [AV.eptr [AV.eptr d.cs (0:Nat),.map (0:Nat),AV.fn (72:FuncId) [] []] (0:Nat)]/\yd [iN l]/\TTail.z0=TTail.z0/\yd [iN l,iN n]/\yd [AV.slc 3 es4,iN n5,iN n6]/\I15 (i18+2) [AV.agg [AV.slc 3 (v59::r60),iN n48,iN n49],.agg [AV.iface 1000000 (.slc 3 es55)]])))/\∀(es18:List AV) (n19 n20:Int) (es21:List AV),I15 xs11.length [AV.agg [AV.slc 3 es18,iN n19,iN n20],.agg [AV.iface 1000000 (.slc 3 es21)]]->kK Tryz.prog (32:Nat) es21/\xu Tryz.prog (32:Nat) (.agg [iN l,iN n])/\∃es'25,xP es21 (.agg [iN l,iN n]) (.agg [AV.slc 3 es18,iN n19,iN n20]) es'25/\Q (.agg [AV.slc 3 es18,iN n19,iN n20]) [[AV.iface 1000000 (.slc 3 es'25)]]))
theorem s73 (d:TDepot) (M:List AV) (l n:Int) (v O) (h:R73 d M l n (fun r O'=>r=v/\O'=O)):Sp 73 [.eptr [d.ptr,.map 0,.fn 72 [] []] 0,iN l,iN n] [[.iface 1000000 (.slc 3 M)]] v O :=
 zX ⟨[],[],[104,997000000],[(109,⟨[0,1,2,3,4,5,6],[],[],[]⟩),(72,⟨[0,1,2,3,4],[],[],[]⟩)],[92]⟩ 4 ⟨[0,1,2,3,4,6,7,8,9,10,11,12,13,14,15,17,28,42,47,48,49,77,79,80,81,82],[⟨11,[],[],[(10,.agg [.slc 3 [],iN 0,iN 0]),(1000000,.agg [.iface 1000000 (.slc 3 [])])],[],[.agg [.str default,iN 0,iN 0,iN 0,iN 0,iN 0,.eptr [iN 0,iN 0,iN 0,iN 0,iN 0,iN 0,iN 0,iN 0,iN 0,.slc 3 [],.slc 3 [],.slc 3 [],.slc 3 [],.slc 3 []] 0,iN 0,iN 0,.slc 3 [],iN 0,iN 0,iN 0],iN 0],[[]]⟩,⟨16,[(81,iN 0)],[(15,3)],[],[],[],[]⟩],[],[(13,3500000010),(20,999000015),(21,2000000014)]⟩ [⟨126,false,[.iface 1000000 (.slc 3 M)]⟩] (by exact⟨Tryz.call109,⟨Tryz.call72,trivial⟩⟩) Tryz.func73 Tryz.call73 rfl rfl rfl (by kernel_rfl) h
def yY (d:TDepot) (k l:Nat) (b:TTail) (p:TTour × Int):TTail:=ky b (qq d p.1 (yy d k (l+1) p.2))
def kB (d:TDepot) (k l:Nat) (L:List (Nat × Int)) (p:TTour × Int):List (Nat × Int):=jh d k (l+1) p.2 L
theorem Nt (d:TDepot) (hd:WI d) (hN:d.RoTask.Lorries.length<=1000):∀(k l:Nat) (n:Int) (L:List (Nat × Int)),l+k=d.RoTask.Lorries.length->0<=n->n<64->L.Nodup->(∀q∈L,vi q) ->
  Sp 73 [.eptr [d.ptr,.map 0,.fn 72 [] []] 0,.int .i64 l,.int .i64 n] [[.iface 1000000 (.slc 3 (L.map (xS d)))]] (yy d k l n).av [[.iface 1000000 (.slc 3 ((jh d k l n L).map (xS d)))]]:=by
 have hjl:=hd.jl;intro k;induction k with
 |zero =>
  intro l n L hl h0 h1 hnd hk;refine s73 d _ l n _ _ ?_;unfold R73 Nj;exact⟨fun _=>⟨rfl,rfl⟩,fun h=>by rw[List.length_map,<- hl] at h;simp at h⟩
 |succ k ih =>
  intro l n L hl h0 h1 hnd hk;refine s73 d _ l n _ _ ?_;unfold R73 Nj;refine⟨fun h=>by rw[List.length_map,beq_iff_eq] at h;omega,fun _=>?_⟩;have hkey:vi (l,n):=⟨by show l<=1000;omega,h0,h1⟩;have hbt:Tw d l n=yy d (k+1) l n:=by unfold Tw;rw[show d.RoTask.Lorries.length-l=k+1 by omega]
  refine⟨TQ d hk,vJ hkey,?_⟩;by_cases hc:(l,n)∈L
  ·refine⟨_,_,_,true,zaa (d:=d) hnd hc _,fun _=>⟨?_,?_⟩,fun h=>by cases h⟩
   ·rw[<- hbt];rfl
   ·have:jh d (k+1) l n L=L:=by unfold jh;rw[if_pos hc]
    rw[this]
  refine⟨[],0,0,false,K1 (d:=d) hc _,fun h=>(by cases h),fun _=>?_⟩;generalize hG:wM d 7 (yF d l) n=G;have hin:∀p∈G,_:=fun p hp=>Xc 7 _ _ h0 h1 hjl (by show (-1:Int)<_;omega) p (hG▸hp)
  have hB:yy d (k+1) l n=G.foldl (yY d k l) TTail.zero:=by rw[<- hG];rfl
  have hM:jh d (k+1) l n L=G.foldl (kB d k l) L++[(l,n)]:=by rw[<- hG];unfold jh;rw[if_neg hc];rfl
  have hseq:=US d hd l n (by omega) (by omega) h0 h1;rw[hG] at hseq;have hput:∀b:TTail,b=yy d (k+1) l n->xP ((G.foldl (kB d k l) L).map (xS d)) (Uv (l,n)) b.av ((jh d (k+1) l n L).map (xS d)):=by
   rintro b rfl;rw[<- hbt,hM];exact zab (XM hc)
  have hkM:∀i,∀q∈(G.take i).foldl (kB d k l) L,vi q:=fun i=>QX hjl (by omega) _ _ (fun p hp=>(hin p (List.mem_of_mem_take hp)).2.2) hk
  have hnM:∀i,((G.take i).foldl (kB d k l) L).Nodup:=fun i=>Wg _ _ hnd
  refine⟨_,hseq,fun x hx=>?_,fun he=>?_,?_⟩
  ·obtain ⟨p,_,rfl⟩:=List.mem_map.1 hx;exact⟨rfl,rfl⟩
  ·have he:G=[]:=List.map_eq_nil_iff.1 he;have:=hput TTail.zero (by rw[hB,he];rfl);rw[he] at this;exact⟨TQ d hk,vJ hkey,_,this,by rw[hB,he];rfl,rfl⟩
  refine⟨fun i vs=>vs=[((G.take i).foldl (yY d k l) TTail.zero).av,.agg [.iface 1000000 (.slc 3 (((G.take i).foldl (kB d k l) L).map (xS d)))]],?_,?_,?_⟩
  ·intros;rename_i hx;rw[List.getElem?_map] at hx;obtain ⟨p,hp,he⟩:=Option.map_eq_some_iff.1 hx;cases he;obtain ⟨i1,i2,i3,i4⟩:=hin p (List.mem_of_getElem? hp);have hR:(yy d k (l+1) p.2).plan.length<=1000:=Nat.le_trans (xZ ..) (by omega);have hJl:(ym p.1).length=p.1.stops.length:=List.length_map ..;have hon:(p.1.on d).stops.length=p.1.stops.length:=rfl;have hJm:p.1.stops.length<=7:=by have:(yF d l).stops.length=0:=rfl;omega
   rw[yr (by omega)];refine⟨_,_,_,_,ih (l+1) p.2 L (by omega) i3 i4 hnd hk,_,L5 d p.1 i1,?_⟩;refine⟨fun m vs=>∃j:Nat,vs=[.int .i64 j,.slc 3 (yg ((ym p.1).take j))]/\j<=(ym p.1).length/\m=(ym p.1).length-j,⟨_,0,rfl,by omega,rfl⟩,?_⟩;rintro m _ _ ⟨j,hj,hle,rfl⟩;cases hj;refine⟨fun h3=>?_,fun h3=>?_⟩
   ·have h3:j<p.1.stops.length:=by have:=zt_ h3;rw[List.length_map] at this;omega
    have hs:=vq ((ym p.1).take j) (by rw[List.length_take];omega) (p.1.stops[j]).Job;refine⟨_,_,_,_,⟨by omega,rfl,vp h3⟩,hs.1,hs.2,?_⟩;repeat (refine And.intro rfl ?_)
    exact⟨yg ((ym p.1).take (j+1)),wW h3,_,(by omega:(ym p.1).length-(j+1)<(ym p.1).length-j),j+1,by rw[yr (by omega)],by omega,rfl⟩
   ·have h3:j=(ym p.1).length:=by have:=zf_ h3;rw[List.length_map] at this;omega
    subst h3;rw[List.take_length];obtain ⟨t1,t2,t3,t4⟩:=Yd (ym p.1) (yy d k (l+1) p.2).plan hR;refine⟨(qM _).1,yg (ym p.1),(qM _).2,t1,t2,t3,yL (ym p.1::(yy d k (l+1) p.2).plan),t4,?_⟩;repeat (refine And.intro rfl ?_)
    have hsB:(G.take 1).foldl (yY d k l) TTail.zero=ky TTail.zero (qq d p.1 (yy d k (l+1) p.2)):=j6 hp;have hsM:(G.take 1).foldl (kB d k l) L=jh d k (l+1) p.2 L:=j6 hp;show [_,_]=[((G.take 1).foldl (yY d k l) TTail.zero).av,AV.agg [.iface 1000000 (.slc 3 (((G.take 1).foldl (kB d k l) L).map (xS d)))]];rw[hsB,hsM];rfl
  ·intro i;intros;rename_i hx es47 n48 n49 es50 hI;rw[List.getElem?_map] at hx;obtain ⟨p,hp,he⟩:=Option.map_eq_some_iff.1 hx;cases he;cases hI;obtain ⟨i1,i2,i3,i4⟩:=hin p (List.mem_of_getElem? hp);have hR:(yy d k (l+1) p.2).plan.length<=1000:=Nat.le_trans (xZ ..) (by omega);have hJl:(ym p.1).length=p.1.stops.length:=List.length_map ..;have hon:(p.1.on d).stops.length=p.1.stops.length:=rfl;have hJm:p.1.stops.length<=7:=by have:(yF d l).stops.length=0:=rfl;omega
   have hne:((G.take (i+1)).foldl (yY d k l) TTail.zero).plan≠[]:=NO _ _ (.inr fun h=>by
    have h:=congrArg List.length h;have:=(List.getElem?_eq_some_iff.1 hp).1;rw[List.length_take,List.length_nil] at h;omega)
   have hsB:(G.take (i+2)).foldl (yY d k l) TTail.zero=ky ((G.take (i+1)).foldl (yY d k l) TTail.zero) (qq d p.1 (yy d k (l+1) p.2)):=j6 hp;have hsM:(G.take (i+2)).foldl (kB d k l) L=jh d k (l+1) p.2 ((G.take (i+1)).foldl (kB d k l) L):=j6 hp;obtain ⟨a,r,har⟩:=List.exists_cons_of_ne_nil hne;rw[yr (by omega)];refine⟨_,_,_,_,ih (l+1) p.2 _ (by omega) i3 i4 (hnM (i+1)) (hkM (i+1)),_,L5 d p.1 i1,_,_,by rw[har];rfl,fun g1=>?_,fun g1=>⟨fun g2=>⟨fun g3=>?_,fun g3=>?_⟩,fun g2=>?_⟩⟩
   ·have hb:j9 (qq d p.1 (yy d k (l+1) p.2)) ((G.take (i+1)).foldl (yY d k l) TTail.zero)=true:=by
     show (_ || _)=true;rw[show decide ((qq d p.1 (yy d k (l+1) p.2)).value>((G.take (i+1)).foldl (yY d k l) TTail.zero).value)=true from g1];rfl
    refine⟨fun m vs=>∃j:Nat,vs=[.int .i64 j,.slc 3 (yg ((ym p.1).take j))]/\j<=(ym p.1).length/\m=(ym p.1).length-j,⟨_,0,rfl,by omega,rfl⟩,?_⟩;rintro m _ _ ⟨j,hj,hle,rfl⟩;cases hj;refine⟨fun h3=>?_,fun h3=>?_⟩
    ·have h3:j<p.1.stops.length:=by have:=zt_ h3;rw[List.length_map] at this;omega
     have hs:=vq ((ym p.1).take j) (by rw[List.length_take];omega) (p.1.stops[j]).Job;refine⟨_,_,_,_,⟨by omega,rfl,vp h3⟩,hs.1,hs.2,?_⟩;repeat (refine And.intro rfl ?_)
     exact⟨yg ((ym p.1).take (j+1)),wW h3,_,(by omega:(ym p.1).length-(j+1)<(ym p.1).length-j),j+1,by rw[yr (by omega)],by omega,rfl⟩
    ·have h3:j=(ym p.1).length:=by have:=zf_ h3;rw[List.length_map] at this;omega
     subst h3;rw[List.take_length];obtain ⟨t1,t2,t3,t4⟩:=Yd (ym p.1) (yy d k (l+1) p.2).plan hR;refine⟨(qM _).1,yg (ym p.1),(qM _).2,t1,t2,t3,yL (ym p.1::(yy d k (l+1) p.2).plan),t4,?_⟩;repeat (refine And.intro rfl ?_)
     show [_,_]=[((G.take (i+2)).foldl (yY d k l) TTail.zero).av,AV.agg [.iface 1000000 (.slc 3 (((G.take (i+2)).foldl (kB d k l) L).map (xS d)))]];rw[hsB,xI hne hb,hsM];rfl
   ·have hb:j9 (qq d p.1 (yy d k (l+1) p.2)) ((G.take (i+1)).foldl (yY d k l) TTail.zero)=false:=by
     show (_ || (_ && _))=false;rw[show decide ((qq d p.1 (yy d k (l+1) p.2)).value>((G.take (i+1)).foldl (yY d k l) TTail.zero).value)=false from g1,show decide ((qq d p.1 (yy d k (l+1) p.2)).cost<((G.take (i+1)).foldl (yY d k l) TTail.zero).cost)=false from (by rw[Bool.not_eq_true'] at g3;exact g3),Bool.and_false];rfl
    repeat (refine And.intro rfl ?_)
    show [_,_]=[((G.take (i+2)).foldl (yY d k l) TTail.zero).av,AV.agg [.iface 1000000 (.slc 3 (((G.take (i+2)).foldl (kB d k l) L).map (xS d)))]];rw[hsB,Xi hne hb,hsM];show _=[AV.agg [.slc 3 (yL _),_,_],_];rw[har];rfl
   ·have hb:j9 (qq d p.1 (yy d k (l+1) p.2)) ((G.take (i+1)).foldl (yY d k l) TTail.zero)=true:=by
     show (_ || (_ && _))=true;rw[show ((qq d p.1 (yy d k (l+1) p.2)).value == ((G.take (i+1)).foldl (yY d k l) TTail.zero).value)=true from g2,show decide ((qq d p.1 (yy d k (l+1) p.2)).cost<((G.take (i+1)).foldl (yY d k l) TTail.zero).cost)=true from (by rw[Bool.not_eq_false'] at g3;exact g3),Bool.and_true,Bool.or_true]
    refine⟨fun m vs=>∃j:Nat,vs=[.int .i64 j,.slc 3 (yg ((ym p.1).take j))]/\j<=(ym p.1).length/\m=(ym p.1).length-j,⟨_,0,rfl,by omega,rfl⟩,?_⟩;rintro m _ _ ⟨j,hj,hle,rfl⟩;cases hj;refine⟨fun h3=>?_,fun h3=>?_⟩
    ·have h3:j<p.1.stops.length:=by have:=zt_ h3;rw[List.length_map] at this;omega
     have hs:=vq ((ym p.1).take j) (by rw[List.length_take];omega) (p.1.stops[j]).Job;refine⟨_,_,_,_,⟨by omega,rfl,vp h3⟩,hs.1,hs.2,?_⟩;repeat (refine And.intro rfl ?_)
     exact⟨yg ((ym p.1).take (j+1)),wW h3,_,(by omega:(ym p.1).length-(j+1)<(ym p.1).length-j),j+1,by rw[yr (by omega)],by omega,rfl⟩
    ·have h3:j=(ym p.1).length:=by have:=zf_ h3;rw[List.length_map] at this;omega
     subst h3;rw[List.take_length];obtain ⟨t1,t2,t3,t4⟩:=Yd (ym p.1) (yy d k (l+1) p.2).plan hR;refine⟨(qM _).1,yg (ym p.1),(qM _).2,t1,t2,t3,yL (ym p.1::(yy d k (l+1) p.2).plan),t4,?_⟩;repeat (refine And.intro rfl ?_)
     show [_,_]=[((G.take (i+2)).foldl (yY d k l) TTail.zero).av,AV.agg [.iface 1000000 (.slc 3 (((G.take (i+2)).foldl (kB d k l) L).map (xS d)))]];rw[hsB,xI hne hb,hsM];rfl
   ·have hb:j9 (qq d p.1 (yy d k (l+1) p.2)) ((G.take (i+1)).foldl (yY d k l) TTail.zero)=false:=by
     show (_ || (_ && _))=false;rw[show decide ((qq d p.1 (yy d k (l+1) p.2)).value>((G.take (i+1)).foldl (yY d k l) TTail.zero).value)=false from g1,show ((qq d p.1 (yy d k (l+1) p.2)).value == ((G.take (i+1)).foldl (yY d k l) TTail.zero).value)=false from g2,Bool.false_and];rfl
    repeat (refine And.intro rfl ?_)
    show [_,_]=[((G.take (i+2)).foldl (yY d k l) TTail.zero).av,AV.agg [.iface 1000000 (.slc 3 (((G.take (i+2)).foldl (kB d k l) L).map (xS d)))]];rw[hsB,Xi hne hb,hsM];show _=[AV.agg [.slc 3 (yL _),_,_],_];rw[har];rfl
  ·intro es18 n19 n20 es21 hI;rw[List.length_map,List.take_length] at hI;have h2:=hput _ hB.symm;have h3:=hkM G.length;rw[List.take_length] at h3;cases hI;exact⟨TQ d h3,vJ hkey,_,h2,by rw[hB];rfl,rfl⟩
end Go.Proofs.YtkojpnkknehhmaaGreatDoor

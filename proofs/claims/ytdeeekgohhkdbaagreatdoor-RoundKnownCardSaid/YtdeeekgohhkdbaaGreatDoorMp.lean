/- Maps that live on. -/
import Derived.Test.YtdeeekgohhkdbaaGreatDoorR13
namespace Go.Proofs.YtdeeekgohhkdbaaGreatDoor
open Go.RowKit
mutual
theorem OZ:∀ {a b:AV} {c:Value},kf a=some c->kf b=some c->a=b
 |.int k n,b,c,h,h'=>by
  simp only[kf,Option.some.injEq] at h;subst h;cases b<;>simp only[kf,Option.some.injEq,Option.map_eq_some_iff,reduceCtorEq,and_false,exists_false] at h';cases h';rfl
 |.bool x,b,c,h,h'=>by
  simp only[kf,Option.some.injEq] at h;subst h;cases b<;>simp only[kf,Option.some.injEq,Option.map_eq_some_iff,reduceCtorEq,and_false,exists_false] at h';cases h';rfl
 |.str x,b,c,h,h'=>by
  simp only[kf,Option.some.injEq] at h;subst h;cases b<;>simp only[kf,Option.some.injEq,Option.map_eq_some_iff,reduceCtorEq,and_false,exists_false] at h';cases h';rfl
 |.agg cs,b,c,h,h'=>by
  simp only[kf,Option.map_eq_some_iff] at h;obtain ⟨l,hl,rfl⟩:=h;cases b with
  |agg ds =>
   simp only[kf,Option.map_eq_some_iff,Value.agg.injEq] at h';obtain ⟨l',hl',he⟩:=h';have:l'=l:=by simpa using congrArg Array.toList he
   subst this;rw[Mk hl hl']
  |_=>simp[kf] at h'
 |.undef,_,_,h,_ | .tt,_,_,h,_ | .ff,_,_,h,_ | .lit _ _,_,_,h,_ | .nilp,_,_,h,_ | .eptr _ _,_,_,h,_ | .ref _ _,_,_,h,_ | .slc _ _,_,_,h,_ | .aslc _ _ _ _ _,_,_,h,_ | .fn _ _ _,_,_,h,_ | .nilfn,_,_,h,_ | .iface _ _,_,_,h,_ | .nilif,_,_,h,_ | .tup _,_,_,h,_ | .map _,_,_,h,_ | .nilmap,_,_,h,_ | .yld _,_,_,h,_=>by simp[kf] at h
theorem Mk:∀ {a b:List AV} {l:List Value},cvL a=some l->cvL b=some l->a=b
 |[],b,l,h,h'=>by
  simp only[cvL,Option.some.injEq] at h;subst h;cases b with
  |nil=>rfl
  |cons y s=>simp only[cvL] at h';split at h'<;>simp at h'
 |x::r,b,l,h,h'=>by
  simp only[cvL] at h;split at h
  ·rename_i v m hv hm;cases h;cases b with
   |nil=>simp[cvL] at h'
   |cons y s =>
    simp only[cvL] at h';split at h'
    ·rename_i v' m' hv' hm';simp only[Option.some.injEq,List.cons.injEq] at h';obtain ⟨rfl,rfl⟩:=h';rw[OZ hv hv',Mk hm hm']
    ·cases h'
  ·cases h
end
theorem Qa:∀ {cs:List AV} {l:List Value},cvL cs=some l->cs.length=l.length/\∀j,j<cs.length->kf (cs.getD j .undef)=some (l.getD j Go.undef)
 |[],l,h=>by simp only[cvL,Option.some.injEq] at h;subst h;exact⟨rfl,fun j hj=>by simp at hj⟩
 |x::r,l,h=>by
  simp only[cvL] at h;split at h
  ·rename_i v m hv hm;cases h;obtain ⟨h1,h2⟩:=Qa hm;refine⟨by simp[h1],fun j hj=>?_⟩;cases j with
   |zero=>exact hv
   |succ j=>exact h2 j (by simpa using hj)
  ·cases h
mutual
theorem DE {ρ:RO} {E:Option Lay}:∀(v:AV) (c:Value),kf v=some c->Rv ρ E v c
 |.int k n,c,h=>by simp only[kf,Option.some.injEq] at h;subst h;exact .int ..
 |.bool b,c,h=>by simp only[kf,Option.some.injEq] at h;subst h;exact .bool ..
 |.str s,c,h=>by simp only[kf,Option.some.injEq] at h;subst h;exact .str ..
 |.agg cs,c,h=>by
  simp only[kf,Option.map_eq_some_iff] at h;obtain ⟨l,hl,rfl⟩:=h;refine .agg _ _ _ (by simpa using (Qa hl).1) fun j=>?_
  have e:(l.toArray).getD j Go.undef=l.getD j Go.undef:=by
   simp only[Array.getD,List.getD,List.size_toArray];split
   ·rename_i hj;simp[hj]
   ·rename_i hj;rw[List.getElem?_eq_none (by omega)];rfl
  rw[e];exact KS cs l hl j
 |.undef,_,h | .tt,_,h | .ff,_,h | .lit _ _,_,h | .nilp,_,h | .eptr _ _,_,h | .ref _ _,_,h | .slc _ _,_,h | .aslc _ _ _ _ _,_,h | .fn _ _ _,_,h | .nilfn,_,h | .iface _ _,_,h | .nilif,_,h | .tup _,_,h | .map _,_,h | .nilmap,_,h | .yld _,_,h=>by simp[kf] at h
theorem KS {ρ:RO} {E:Option Lay}:∀(cs:List AV) (l:List Value),cvL cs=some l->∀j,Rv ρ E (cs.getD j .undef) (l.getD j Go.undef)
 |[],_,_,j=>by cases j<;>exact .undef ..
 |x::r,l,h,j=>by
  simp only[cvL] at h;split at h
  ·rename_i v m hv hm;cases h;cases j with
   |zero=>exact DE x v hv
   |succ j=>exact KS r m hm j
  ·cases h
end
mutual
theorem J8 {ρ:RO} {E:Option Lay}:∀(v:AV) (c c':Value),Rv ρ E v c->kf v=some c'->c'=c
 |.int k n,c,c',h,h'=>by cases h;simp only[kf,Option.some.injEq] at h';exact h'.symm
 |.bool b,c,c',h,h'=>by cases h;simp only[kf,Option.some.injEq] at h';exact h'.symm
 |.str s,c,c',h,h'=>by cases h;simp only[kf,Option.some.injEq] at h';exact h'.symm
 |.agg cs,c,c',h,h'=>by
  cases h with
  |agg _ _ vs hl hv =>
   simp only[kf,Option.map_eq_some_iff] at h';obtain ⟨l,hl',rfl⟩:=h';obtain ⟨q1,_⟩:=Qa hl';have:l=vs.toList:=by
    refine List.ext_getElem (by simp;omega) fun j h1 h2=>?_
    have:=J7 cs l vs hv hl' j (by omega);simp only[List.getD,List.getElem?_eq_getElem h1,Option.getD_some] at this;rw[this];simp only[Array.getElem_toList,Array.getD];rw[dif_pos (by omega)];rfl
   rw[this]
 |.undef,_,_,_,h | .tt,_,_,_,h | .ff,_,_,_,h | .lit _ _,_,_,_,h | .nilp,_,_,_,h | .eptr _ _,_,_,_,h | .ref _ _,_,_,_,h | .slc _ _,_,_,_,h | .aslc _ _ _ _ _,_,_,_,h | .fn _ _ _,_,_,_,h | .nilfn,_,_,_,h | .iface _ _,_,_,_,h | .nilif,_,_,_,h | .tup _,_,_,_,h | .map _,_,_,_,h | .nilmap,_,_,_,h | .yld _,_,_,_,h=>by simp[kf] at h
theorem J7 {ρ:RO} {E:Option Lay}:∀(cs:List AV) (l:List Value) (vs:Array Value),(∀j,Rv ρ E (cs.getD j .undef) (vs.getD j Go.undef))->cvL cs=some l->∀j,j<cs.length->l.getD j Go.undef=vs.getD j Go.undef
 |[],_,_,_,_,j,hj=>by simp at hj
 |x::r,l,vs,hv,h,j,hj=>by
  simp only[cvL] at h;split at h
  ·rename_i v m hx hm;cases h;cases j with
   |zero=>exact J8 x _ v (hv 0) hx
   |succ j =>
    have e:∀i,(vs.extract 1 vs.size).getD i Go.undef=vs.getD (i+1) Go.undef:=fun i=>by
     simp only[Array.getD,Array.size_extract];by_cases hi:i+1<vs.size
     ·rw[dif_pos (by omega),dif_pos hi];simp[Nat.add_comm]
     ·rw[dif_neg (by omega),dif_neg hi]
    have:=J7 r m (vs.extract 1 vs.size) (fun i=>by rw[e i];exact hv (i+1)) hm j (by simpa using hj);rw[e j] at this;exact this
  ·cases h
end
theorem XC {ρ:RO}:∀ {es:List AV} {zE:List MapEntry},YE ρ es zE->es.length=zE.length/\∀(i:Nat) (e:MapEntry),zE[i]? = some e->∃k v:AV,es[i]? = some (AV.agg [k,v])/\kf k=some e.key/\Rv ρ none v e.val
 |[],[],_=>⟨rfl,fun i e h=>by simp at h⟩
 |[],_::_,h=>h.elim
 |_::_,[],h=>h.elim
 |x::es,e::zE,⟨⟨k,v,hx,hk,hv⟩,h⟩=>by
  obtain ⟨h1,h2⟩:=XC h;refine⟨by simp[h1],fun i e' hi=>?_⟩;cases i with
  |zero=>cases hi;exact⟨k,v,by rw[hx];rfl,hk,hv⟩
  |succ i=>exact h2 i e' hi
theorem Sy {ρ:RO}:∀ {es:List AV} {zE:List MapEntry} {k v:AV} {e:MapEntry},YE ρ es zE->kf k=some e.key->Rv ρ none v e.val->YE ρ (es++[.agg [k,v]]) (zE++[e])
 |[],[],k,v,_,_,hk,hv=>⟨⟨k,v,rfl,hk,hv⟩,trivial⟩
 |[],_::_,_,_,_,h,_,_=>h.elim
 |_::_,[],_,_,_,h,_,_=>h.elim
 |_::_es,_::_E,_k,_v,_e,⟨h0,h⟩,hk,hv=>⟨h0,Sy h hk hv⟩
theorem Mx {P:Program} {kt:TypeId} {c:Value} {zE:List MapEntry} (hc:Ow P kt c) (hE:∀e∈zE,Ow P kt e.key) (w:World) (em:Bool) :
  (Instr.checkKey em 10000 kt c).run P w=.ok () w/\(Instr.keyThatStays c c).run P w=.ok c w /\
  (((Instr.findKey kt c zE).run P w=.ok none w/\∀e∈zE,e.key≠c)\/∃j e,(Instr.findKey kt c zE).run P w=.ok (some (j,e.val)) w/\zE[j]? = some e/\e.key=c):=by
 unfold Ow at hc hE;cases hu:P.underlying kt with
 |none=>rw[hu] at hc;exact hc.elim
 |some d =>
  rw[hu] at hc hE;have scalar:MapKept.IsKey d c->(∀e∈zE,MapKept.IsKey d e.key)->(Instr.checkKey em 10000 kt c).run P w=.ok () w/\(Instr.keyThatStays c c).run P w=.ok c w /\
    (((Instr.findKey kt c zE).run P w=.ok none w/\∀e∈zE,e.key≠c)\/∃j e,(Instr.findKey kt c zE).run P w=.ok (some (j,e.val)) w/\zE[j]? = some e/\e.key=c):=fun h1 h2=>by
   refine⟨MapKept.run_checkKey hu h1 em 9999,MapKept.run_keyThatStays h1,?_⟩;rcases MapKept.findNow_spec h1 zE 0 h2 with ⟨q1,q2⟩ | ⟨j,e,q1,q2,q3⟩
   ·exact .inl ⟨MapKept.run_findKey hu q1,q2⟩
   ·exact .inr ⟨j,e,by rw[MapKept.run_findKey hu q1,Nat.zero_add],q2,q3⟩
  have wide:(match P.underlying kt with | some (.array _ _) | some (.struct _)=>true | _=>false)=true->(P.keyTypeAt 2 kt=true/\P.tiled 2 kt=true/\∃l,keyOf P kt c=some l)->(∀e∈zE,P.keyTypeAt 2 kt=true/\P.tiled 2 kt=true/\∃l,keyOf P kt e.key=some l)->(Instr.checkKey em 10000 kt c).run P w=.ok () w/\(Instr.keyThatStays c c).run P w=.ok c w /\
    (((Instr.findKey kt c zE).run P w=.ok none w/\∀e∈zE,e.key≠c)\/∃j e,(Instr.findKey kt c zE).run P w=.ok (some (j,e.val)) w/\zE[j]? = some e/\e.key=c):=fun hw hc hE=>by
   obtain ⟨t1,t2,l,hl⟩:=hc;have K:=deep_law (P:=P) (m:=2) (by omega) t1 t2 hw;refine⟨K.check w em hl,K.stays w hl,K.find w hl zE fun e he=>(hE e he).2.2⟩
  cases d with
  |struct fs=>exact wide (by rw[hu]) hc hE
  |array n e=>exact wide (by rw[hu]) hc hE
  |_=>exact scalar hc hE
theorem Wt {ρ:RO}:∀ {es:List AV} {zE:List MapEntry} {i:Nat} {k v:AV} {f:MapEntry->MapEntry},YE ρ es zE->(∀e,zE[i]? = some e->kf k=some (f e).key/\Rv ρ none v (f e).val)->YE ρ (es.set i (.agg [k,v])) (zE.modify i f)
 |[],[],i,_,_,_,_,_=>by cases i<;>exact trivial
 |[],_::_,_,_,_,_,h,_=>h.elim
 |_::_,[],_,_,_,_,h,_=>h.elim
 |x::es,y::zE,0,k,v,f,⟨_,h⟩,hk=>by
  obtain ⟨h1,h2⟩:=hk y rfl;rw[List.modify_zero_cons];exact⟨⟨k,v,rfl,h1,h2⟩,h⟩
 |x::es,y::zE,i+1,k,v,f,⟨h0,h⟩,hk=>by
  rw[List.modify_succ_cons];exact⟨h0,Wt h hk⟩
theorem PJ {ρ:RO} {P:Program} {kt:TypeId} {es:List AV} {zE:List MapEntry} (hm:YE ρ es zE) (hk:kX P kt es):∀e∈zE,Ow P kt e.key:=by
 intro e he;obtain ⟨i,hi,rfl⟩:=List.getElem_of_mem he;obtain ⟨_,h2⟩:=XC hm;obtain ⟨k,v,h3,h4,_⟩:=h2 i _ (List.getElem?_eq_getElem hi);obtain ⟨k',v',h5,c,h6,h7⟩:=hk _ (List.mem_of_getElem? h3);cases h5;rw[h4] at h6;cases h6;exact h7
section
variable {ds:List Deferred} {n:Nat} {E0:Lay} {ρ0:RO} {w0:World} {ρ:RO} {E:Lay} {Z:St} {a:Act} {w:World}
theorem Sat.z7 (hs:Sat ds n E0 ρ0 w0 ρ E Z a w) {b:Nat} {x:Bx} {es:List AV} (hb:Z.bx.getD b none=some x) (hm:x.mp=some es) :
  x.arr=false/\(E b).2≠0/\1<=(E b).2/\∃zE clock,w.heap[(E b).1]? = some (.map zE clock)/\YE ρ es zE.toList:=by
 obtain ⟨h1,h2⟩:=hs.box b x hb;have ha:x.arr=false:=by
  cases h:x.arr with
  |false=>rfl
  |true=>unfold Bx.mp at hm;rw[if_pos h] at hm;cases hm
 have hmm:=hm;unfold Bx.mp at hmm;rw[if_neg (by simp[ha])] at hmm;obtain ⟨m,hcs⟩:=u9 hmm;have hl:1<=(E b).2:=by rw[hcs] at h1;simpa using h1
 refine⟨ha,by omega,hl,?_⟩;rcases h2 with h0 | ⟨o,h3,h4⟩
 ·omega
 ·unfold xr at h4;rw[xD,hm] at h4;obtain ⟨zE,clock,rfl,h5⟩:=h4;exact⟨zE,clock,h3,h5⟩
theorem J9 {b:Nat} {c:Value} (h:Rv ρ (some E) (.map b) c):c=.map (some (E b).1):=by
 generalize hg:(some E:Option Lay)=o at h;cases h with
 |map E' b=>cases hg;rfl
theorem Qt {P:Program} {t:TypeId} {m k:AV} {cm ck:Value} {ok:Bool} {K:AV->Prop} (hs:Sat ds n E0 ρ0 w0 ρ E Z a w) (hm:Rv ρ (some E) m cm) (hk:Rv ρ (some E) k ck) (h:wv P t Z m k ok K) :
  ∃v cv,(Instr.lookup t cm ck ok).run P w=.ok cv w/\Rv ρ (some E) v cv/\K v:=by
 unfold wv at h;split at h
 ·rename_i kt et b hu;split at h
  ·rename_i x z hb hz;split at h
   ·rename_i es hes;obtain ⟨hks,⟨c,hc,hkv⟩,h⟩:=h;obtain ⟨v,f,hg,hK⟩:=uD h;obtain ⟨harr,hk0,hl,zE,clock,hheap,hmv⟩:=hs.z7 hb hes;cases J9 hm;cases J8 _ _ _ hk.norm hc;obtain ⟨h1,_,h3⟩:=Mx hkv (PJ hmv hks) w zE.isEmpty;obtain ⟨q1,q2⟩:=XC hmv;have tail:∀(cv:Value),Rv ρ (some E) v cv->Rv ρ (some E) (if ok then .tup [v,.bool f] else v) (if ok then .tuple #[cv,.bool f] else cv):=by
     intro cv hv;cases ok with
     |false=>exact hv
     |true =>
      refine .tup _ _ _ rfl fun j=>?_
      match j with
      |0=>exact hv
      |1=>exact .bool ..
      |j+2=>exact .undef ..
    rcases h3 with ⟨r1,r2⟩ | ⟨j,e,r1,r2,r3⟩
    ·have hf:f=false:=by
      cases f with
      |false=>rfl
      |true =>
       obtain ⟨i,hi,_⟩:=hg;have hlt:i<es.length:=(List.getElem?_eq_some_iff.1 hi).1;obtain ⟨k',v',g1,g2,_⟩:=q2 i _ (List.getElem?_eq_getElem (by rw[<- q1];exact hlt));rw[hi] at g1;cases g1;rw[hc] at g2;exact absurd (Option.some.inj g2).symm (r2 _ (List.getElem_mem _))
     subst hf;have hg:(∀v',AV.agg [k.norm,v']∉es)/\v=z.norm:=hg;obtain ⟨cz,z1,_,z3⟩:=jR hz w;refine⟨_,_,?_,tail cz ?_,hK⟩
     ·cases ok<;>simp[Instr.lookup,MapKept.run_getObj_map hheap,run_underlying hu,Result.andThen,h1,r1,z1]
     ·rw[hg.2,z3];exact(Rv.ofV ..).norm
    ·obtain ⟨k',v',g1,g2,g3⟩:=q2 j e r2;rw[r3] at g2;have:k'=k.norm:=OZ g2 hc;subst this;cases f with
     |false=>exact absurd (List.mem_of_getElem? g1) (hg.1 v')
     |true =>
      obtain ⟨i,hi,hu'⟩:=hg;cases hu' j v' g1;rw[hi] at g1;cases g1;refine⟨_,_,?_,tail e.val (g3.any (some E)),hK⟩;cases ok<;>simp[Instr.lookup,MapKept.run_getObj_map hheap,run_underlying hu,Result.andThen,h1,r1]
   ·exact h.elim
  ·exact h.elim
 ·exact h.elim
theorem LU {P:Program} {t:TypeId} {m k v:AV} {cm ck cv:Value} {K:St->Prop} (hs:Sat ds n E0 ρ0 w0 ρ E Z a w) (hm:Rv ρ (some E) m cm) (hk:Rv ρ (some E) k ck) (hv:Rv ρ (some E) v cv) (h:LS P t Z m k v K) :
  ∃Z' w',(Instr.mapUpdate t cm ck cv).run P w=.ok () w'/\Sat ds n E0 ρ0 w0 ρ E Z' a w'/\K Z':=by
 unfold LS at h;split at h
 ·rename_i kt et b hu;split at h
  ·rename_i x hb;split at h
   ·rename_i es hes;obtain ⟨hks,⟨c,hc,hkv⟩,es',hput,hK⟩:=h;obtain ⟨harr,hk0,hl,zE,clock,hheap,hmv⟩:=hs.z7 hb hes;cases J9 hm;cases J8 _ _ _ hk.norm hc;have hvc:Rv ρ none v.zK.norm cv:=by
     unfold AV.zK;split
     ·rename_i hval;exact(hv.zm hval).norm
     ·exact .undef ..
    obtain ⟨h1,h2,h3⟩:=Mx hkv (PJ hmv hks) w false;obtain ⟨q1,q2⟩:=XC hmv;have fin:∀(o:Obj) (zE':Array MapEntry) (clock':Nat),o=.map zE' clock'->YE ρ es' zE'.toList->(Instr.mapUpdate t (.map (some (E b).1)) ck cv).run P w=.ok () { w with heap:=w.heap.setIfInBounds (E b).1 o } ->
      ∃Z' w',(Instr.mapUpdate t (.map (some (E b).1)) ck cv).run P w=.ok () w'/\Sat ds n E0 ρ0 w0 ρ E Z' a w'/\K Z':=by
     intro o zE' clock' ho hE hrun;obtain ⟨s1,s2⟩:=MapKept.heap_set (o':=o) hheap;refine⟨_,_,hrun,hs.zR (cs:=[.iface 1000000 (.slc 3 es')]) hb hk0 ⟨rfl,rfl,rfl,by simp,fun r hr=>s2 r hr⟩ s1 ?_ hl,hK⟩;unfold xr lev;rw[if_neg (by simp[harr])];exact⟨zE',clock',ho,hE⟩
    rcases h3 with ⟨r1,r2⟩ | ⟨j,e,r1,r2,r3⟩
    ·refine fin _ (zE.push ⟨ck,cv,clock⟩) (clock+1) rfl ?_ ?_
     ·rcases hput with ⟨i,v0,hi,_⟩ | ⟨_,rfl⟩
      ·have hlt:i<es.length:=(List.getElem?_eq_some_iff.1 hi).1;obtain ⟨k',v',g1,g2,_⟩:=q2 i _ (List.getElem?_eq_getElem (by rw[<- q1];exact hlt));rw[hi] at g1;cases g1;rw[hc] at g2;exact absurd (Option.some.inj g2).symm (r2 _ (List.getElem_mem _))
      ·rw[Array.toList_push];exact Sy hmv hc hvc
     ·simp[Instr.mapUpdate,MapKept.run_getObj_map hheap,run_underlying hu,Result.andThen,h1,r1,MapKept.run_setObj_map _ hheap]
    ·obtain ⟨k',v',g1,g2,g3⟩:=q2 j e r2;rw[r3] at g2;have:k'=k.norm:=OZ g2 hc;subst this;have hej:zE[j]? = some e:=by simpa using r2
     refine fin _ (zE.modify j fun e=>{ e with key:=ck,val:=cv }) clock rfl ?_ ?_
     ·rcases hput with ⟨i,v0,hi,hu',rfl⟩ | ⟨hn,_⟩
      ·cases hu' j v' g1;rw[Array.toList_modify];exact Wt hmv fun _ _=>⟨hc,hvc⟩
      ·exact absurd (List.mem_of_getElem? g1) (hn v')
     ·simp[Instr.mapUpdate,MapKept.run_getObj_map hheap,run_underlying hu,Result.andThen,h1,r1,hej,r3,h2,MapKept.run_setObj_map _ hheap]
   ·exact h.elim
  ·exact h.elim
 ·exact h.elim
theorem Nu {P:Program} {t:TypeId} {d:Nat} {K:St->Prop} (hs:Sat ds n E0 ρ0 w0 ρ E Z a w) (h:SB n d t Z K) :
  ∃cv w' E' Z',(Instr.makeMap t none).run P w=.ok cv w'/\Sat ds n E0 ρ0 w0 ρ E' Z' (a.put (some d) cv) w'/\K Z':=by
 unfold SB at h;split at h
 ·rename_i hh;simp only[Bool.and_eq_true,decide_eq_true_eq] at hh;obtain ⟨⟨h1,h3⟩,h4⟩:=hh;refine⟨.map (some w.heap.size),w.alloc (.map #[] 0),_,_,by simp[Instr.makeMap,Result.andThen],hs.zp (o:=.map #[] 0) (B:=w.heap.size) (κ:=1) h1 (by simp[Bx.refs,AV.zd,AV.refs]) h3 h4 (qw.alloc w _) (.inr ⟨(MapKept.heap_alloc w _).1,?_⟩) (by simp) ?_ ?_ (.inl hs.size) ?_,h⟩
  ·exact⟨#[],0,rfl,trivial⟩
  ·intro b cs _ hb hk he;obtain ⟨y,hy,rfl⟩:=yT hb;rcases (hs.box b y hy).blk with h0 | ⟨o',h1,_⟩
   ·exact hk h0
   ·rw[he] at h1;rw[Array.getElem?_eq_none (Nat.le_refl _)] at h1;cases h1
  ·cases hr:ρ w.heap.size with
   |none=>rfl
   |some o =>
    have:=hs.ro _ _ hr;rw[Array.getElem?_eq_none (Nat.le_refl _)] at this;cases this
  ·have:=Rv.map (ρ:=ρ) (wK E (n+d) (w.heap.size,1)) (n+d);simpa[wK] using this
 ·exact h.elim
end
end Go.Proofs.YtdeeekgohhkdbaaGreatDoor

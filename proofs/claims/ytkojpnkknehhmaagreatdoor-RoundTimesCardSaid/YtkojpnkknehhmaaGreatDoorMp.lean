/- Maps that live on: what a look-up, an entry and a new map do. -/
import Derived.Test.YtkojpnkknehhmaaGreatDoorR13
namespace Go.Proofs.YtkojpnkknehhmaaGreatDoor
open Go.RowKit
mutual
theorem Oh:∀ {a b:AV} {c:Value},jS a=some c->jS b=some c->a=b
 |.int k n,b,c,h,h'=>by
  simp only[jS,Option.some.injEq] at h;subst h;cases b<;>simp only[jS,Option.some.injEq,Option.map_eq_some_iff,reduceCtorEq,and_false,exists_false] at h';cases h';rfl
 |.bool x,b,c,h,h'=>by
  simp only[jS,Option.some.injEq] at h;subst h;cases b<;>simp only[jS,Option.some.injEq,Option.map_eq_some_iff,reduceCtorEq,and_false,exists_false] at h';cases h';rfl
 |.str x,b,c,h,h'=>by
  simp only[jS,Option.some.injEq] at h;subst h;cases b<;>simp only[jS,Option.some.injEq,Option.map_eq_some_iff,reduceCtorEq,and_false,exists_false] at h';cases h';rfl
 |.agg cs,b,c,h,h'=>by
  simp only[jS,Option.map_eq_some_iff] at h;obtain ⟨l,hl,rfl⟩:=h;cases b with
  |agg ds =>
   simp only[jS,Option.map_eq_some_iff,Value.agg.injEq] at h';obtain ⟨l',hl',he⟩:=h';have:l'=l:=by simpa using congrArg Array.toList he
   subst this;rw[NB hl hl']
  |_=>simp[jS] at h'
 |.undef,_,_,h,_ | .tt,_,_,h,_ | .ff,_,_,h,_ | .lit _ _,_,_,h,_ | .nilp,_,_,h,_ | .eptr _ _,_,_,h,_ | .ref _ _,_,_,h,_ | .slc _ _,_,_,h,_ | .aslc _ _ _ _ _,_,_,h,_ | .fn _ _ _,_,_,h,_ | .nilfn,_,_,h,_ | .iface _ _,_,_,h,_ | .nilif,_,_,h,_ | .tup _,_,_,h,_ | .map _,_,_,h,_ | .nilmap,_,_,h,_ | .yld _,_,_,h,_=>by simp[jS] at h
theorem NB:∀ {a b:List AV} {l:List Value},cvL a=some l->cvL b=some l->a=b
 |[],b,l,h,h'=>by
  simp only[cvL,Option.some.injEq] at h;subst h;cases b with
  |nil=>rfl
  |cons y s=>simp only[cvL] at h';split at h'<;>simp at h'
 |x::r,b,l,h,h'=>by
  simp only[cvL] at h;split at h
  ·rename_i v m hv hm;cases h;cases b with
   |nil=>simp[cvL] at h'
   |cons y s =>
    simp only[cvL] at h';split at h'
    ·rename_i v' m' hv' hm';simp only[Option.some.injEq,List.cons.injEq] at h';obtain ⟨rfl,rfl⟩:=h';rw[Oh hv hv',NB hm hm']
    ·cases h'
  ·cases h
end
theorem SI:∀ {cs:List AV} {l:List Value},cvL cs=some l->cs.length=l.length/\∀j,j<cs.length->jS (cs.getD j .undef)=some (l.getD j Go.undef)
 |[],l,h=>by simp only[cvL,Option.some.injEq] at h;subst h;exact⟨rfl,fun j hj=>by simp at hj⟩
 |x::r,l,h=>by
  simp only[cvL] at h;split at h
  ·rename_i v m hv hm;cases h;obtain ⟨h1,h2⟩:=SI hm;refine⟨by simp[h1],fun j hj=>?_⟩;cases j with
   |zero=>exact hv
   |succ j=>exact h2 j (by simpa using hj)
  ·cases h
mutual
theorem DX {ρ:RO} {μ:Option Lay}:∀(v:AV) (c:Value),jS v=some c->Rv ρ μ v c
 |.int k n,c,h=>by simp only[jS,Option.some.injEq] at h;subst h;exact .int ..
 |.bool b,c,h=>by simp only[jS,Option.some.injEq] at h;subst h;exact .bool ..
 |.str s,c,h=>by simp only[jS,Option.some.injEq] at h;subst h;exact .str ..
 |.agg cs,c,h=>by
  simp only[jS,Option.map_eq_some_iff] at h;obtain ⟨l,hl,rfl⟩:=h;refine .agg _ _ _ (by simpa using (SI hl).1) fun j=>?_
  have e:(l.toArray).getD j Go.undef=l.getD j Go.undef:=by
   simp only[Array.getD,List.getD,List.size_toArray];split
   ·rename_i hj;simp[hj]
   ·rename_i hj;rw[List.getElem?_eq_none (by omega)];rfl
  rw[e];exact Kj cs l hl j
 |.undef,_,h | .tt,_,h | .ff,_,h | .lit _ _,_,h | .nilp,_,h | .eptr _ _,_,h | .ref _ _,_,h | .slc _ _,_,h | .aslc _ _ _ _ _,_,h | .fn _ _ _,_,h | .nilfn,_,h | .iface _ _,_,h | .nilif,_,h | .tup _,_,h | .map _,_,h | .nilmap,_,h | .yld _,_,h=>by simp[jS] at h
theorem Kj {ρ:RO} {μ:Option Lay}:∀(cs:List AV) (l:List Value),cvL cs=some l->∀j,Rv ρ μ (cs.getD j .undef) (l.getD j Go.undef)
 |[],_,_,j=>by cases j<;>exact .undef ..
 |x::r,l,h,j=>by
  simp only[cvL] at h;split at h
  ·rename_i v m hv hm;cases h;cases j with
   |zero=>exact DX x v hv
   |succ j=>exact Kj r m hm j
  ·cases h
end
mutual
theorem Jo {ρ:RO} {μ:Option Lay}:∀(v:AV) (c c':Value),Rv ρ μ v c->jS v=some c'->c'=c
 |.int k n,c,c',h,h'=>by cases h;simp only[jS,Option.some.injEq] at h';exact h'.symm
 |.bool b,c,c',h,h'=>by cases h;simp only[jS,Option.some.injEq] at h';exact h'.symm
 |.str s,c,c',h,h'=>by cases h;simp only[jS,Option.some.injEq] at h';exact h'.symm
 |.agg cs,c,c',h,h'=>by
  cases h with
  |agg _ _ vs hl hv =>
   simp only[jS,Option.map_eq_some_iff] at h';obtain ⟨l,hl',rfl⟩:=h';obtain ⟨q1,_⟩:=SI hl';have:l=vs.toList:=by
    refine List.ext_getElem (by simp;omega) fun j h1 h2=>?_
    have:=Jn cs l vs hv hl' j (by omega);simp only[List.getD,List.getElem?_eq_getElem h1,Option.getD_some] at this;rw[this];simp only[Array.getElem_toList,Array.getD];rw[dif_pos (by omega)];rfl
   rw[this]
 |.undef,_,_,_,h | .tt,_,_,_,h | .ff,_,_,_,h | .lit _ _,_,_,_,h | .nilp,_,_,_,h | .eptr _ _,_,_,_,h | .ref _ _,_,_,_,h | .slc _ _,_,_,_,h | .aslc _ _ _ _ _,_,_,_,h | .fn _ _ _,_,_,_,h | .nilfn,_,_,_,h | .iface _ _,_,_,_,h | .nilif,_,_,_,h | .tup _,_,_,_,h | .map _,_,_,_,h | .nilmap,_,_,_,h | .yld _,_,_,_,h=>by simp[jS] at h
theorem Jn {ρ:RO} {μ:Option Lay}:∀(cs:List AV) (l:List Value) (vs:Array Value),(∀j,Rv ρ μ (cs.getD j .undef) (vs.getD j Go.undef))->cvL cs=some l->∀j,j<cs.length->l.getD j Go.undef=vs.getD j Go.undef
 |[],_,_,_,_,j,hj=>by simp at hj
 |x::r,l,vs,hv,h,j,hj=>by
  simp only[cvL] at h;split at h
  ·rename_i v m hx hm;cases h;cases j with
   |zero=>exact Jo x _ v (hv 0) hx
   |succ j =>
    have e:∀i,(vs.extract 1 vs.size).getD i Go.undef=vs.getD (i+1) Go.undef:=fun i=>by
     simp only[Array.getD,Array.size_extract];by_cases hi:i+1<vs.size
     ·rw[dif_pos (by omega),dif_pos hi];simp[Nat.add_comm]
     ·rw[dif_neg (by omega),dif_neg hi]
    have:=Jn r m (vs.extract 1 vs.size) (fun i=>by rw[e i];exact hv (i+1)) hm j (by simpa using hj);rw[e j] at this;exact this
  ·cases h
end
theorem Xg {ρ:RO}:∀ {es:List AV} {E:List MapEntry},Yt ρ es E->es.length=E.length/\∀(i:Nat) (e:MapEntry),E[i]? = some e->∃k v:AV,es[i]? = some (AV.agg [k,v])/\jS k=some e.key/\Rv ρ none v e.val
 |[],[],_=>⟨rfl,fun i e h=>by simp at h⟩
 |[],_::_,h=>h.elim
 |_::_,[],h=>h.elim
 |x::es,e::E,⟨⟨k,v,hx,hk,hv⟩,h⟩=>by
  obtain ⟨h1,h2⟩:=Xg h;refine⟨by simp[h1],fun i e' hi=>?_⟩;cases i with
  |zero=>cases hi;exact⟨k,v,by rw[hx];rfl,hk,hv⟩
  |succ i=>exact h2 i e' hi
theorem TX {ρ:RO}:∀ {es:List AV} {E:List MapEntry} {k v:AV} {e:MapEntry},Yt ρ es E->jS k=some e.key->Rv ρ none v e.val->Yt ρ (es++[.agg [k,v]]) (E++[e])
 |[],[],k,v,_,_,hk,hv=>⟨⟨k,v,rfl,hk,hv⟩,trivial⟩
 |[],_::_,_,_,_,h,_,_=>h.elim
 |_::_,[],_,_,_,h,_,_=>h.elim
 |_::_es,_::_E,_k,_v,_e,⟨h0,h⟩,hk,hv=>⟨h0,TX h hk hv⟩
theorem NS {P:Program} {kt:TypeId} {c:Value} {E:List MapEntry} (hc:PS P kt c) (hE:∀e∈E,PS P kt e.key) (w:World) (em:Bool) :
  (Instr.checkKey em 10000 kt c).run P w=.ok () w/\(Instr.keyThatStays c c).run P w=.ok c w /\
  (((Instr.findKey kt c E).run P w=.ok none w/\∀e∈E,e.key≠c)\/∃j e,(Instr.findKey kt c E).run P w=.ok (some (j,e.val)) w/\E[j]? = some e/\e.key=c):=by
 unfold PS at hc hE;cases hu:P.underlying kt with
 |none=>rw[hu] at hc;exact hc.elim
 |some d =>
  rw[hu] at hc hE;have scalar:MapKept.IsKey d c->(∀e∈E,MapKept.IsKey d e.key)->(Instr.checkKey em 10000 kt c).run P w=.ok () w/\(Instr.keyThatStays c c).run P w=.ok c w /\
    (((Instr.findKey kt c E).run P w=.ok none w/\∀e∈E,e.key≠c)\/∃j e,(Instr.findKey kt c E).run P w=.ok (some (j,e.val)) w/\E[j]? = some e/\e.key=c):=fun h1 h2=>by
   refine⟨MapKept.run_checkKey hu h1 em 9999,MapKept.run_keyThatStays h1,?_⟩;rcases MapKept.findNow_spec h1 E 0 h2 with ⟨q1,q2⟩ | ⟨j,e,q1,q2,q3⟩
   ·exact .inl ⟨MapKept.run_findKey hu q1,q2⟩
   ·exact .inr ⟨j,e,by rw[MapKept.run_findKey hu q1,Nat.zero_add],q2,q3⟩
  have wide:(match P.underlying kt with | some (.array _ _) | some (.struct _)=>true | _=>false)=true->(P.keyTypeAt 2 kt=true/\P.tiled 2 kt=true/\∃l,keyOf P kt c=some l)->(∀e∈E,P.keyTypeAt 2 kt=true/\P.tiled 2 kt=true/\∃l,keyOf P kt e.key=some l)->(Instr.checkKey em 10000 kt c).run P w=.ok () w/\(Instr.keyThatStays c c).run P w=.ok c w /\
    (((Instr.findKey kt c E).run P w=.ok none w/\∀e∈E,e.key≠c)\/∃j e,(Instr.findKey kt c E).run P w=.ok (some (j,e.val)) w/\E[j]? = some e/\e.key=c):=fun hw hc hE=>by
   obtain ⟨t1,t2,l,hl⟩:=hc;have K:=deep_law (P:=P) (m:=2) (by omega) t1 t2 hw;refine⟨K.check w em hl,K.stays w hl,K.find w hl E fun e he=>(hE e he).2.2⟩
  cases d with
  |struct fs=>exact wide (by rw[hu]) hc hE
  |array n e=>exact wide (by rw[hu]) hc hE
  |_=>exact scalar hc hE
theorem Wj {ρ:RO}:∀ {es:List AV} {E:List MapEntry} {i:Nat} {k v:AV} {f:MapEntry->MapEntry},Yt ρ es E->(∀e,E[i]? = some e->jS k=some (f e).key/\Rv ρ none v (f e).val)->Yt ρ (es.set i (.agg [k,v])) (E.modify i f)
 |[],[],i,_,_,_,_,_=>by cases i<;>exact trivial
 |[],_::_,_,_,_,_,h,_=>h.elim
 |_::_,[],_,_,_,_,h,_=>h.elim
 |x::es,y::E,0,k,v,f,⟨_,h⟩,hk=>by
  obtain ⟨h1,h2⟩:=hk y rfl;rw[List.modify_zero_cons];exact⟨⟨k,v,rfl,h1,h2⟩,h⟩
 |x::es,y::E,i+1,k,v,f,⟨h0,h⟩,hk=>by
  rw[List.modify_succ_cons];exact⟨h0,Wj h hk⟩
theorem Pg {ρ:RO} {P:Program} {kt:TypeId} {es:List AV} {E:List MapEntry} (hm:Yt ρ es E) (hk:kK P kt es):∀e∈E,PS P kt e.key:=by
 intro e he;obtain ⟨i,hi,rfl⟩:=List.getElem_of_mem he;obtain ⟨_,h2⟩:=Xg hm;obtain ⟨k,v,h3,h4,_⟩:=h2 i _ (List.getElem?_eq_getElem hi);obtain ⟨k',v',h5,c,h6,h7⟩:=hk _ (List.mem_of_getElem? h3);cases h5;rw[h4] at h6;cases h6;exact h7
section
variable {ds:List Deferred} {n:Nat} {μ0:Lay} {ρ0:RO} {w0:World} {ρ:RO} {μ:Lay} {σ:St} {a:Act} {w:World}
theorem Sat.zV (hs:Sat ds n μ0 ρ0 w0 ρ μ σ a w) {b:Nat} {x:Bx} {es:List AV} (hb:σ.bx.getD b none=some x) (hm:x.mp=some es) :
  x.arr=false/\(μ b).2≠0/\1<=(μ b).2/\∃E clock,w.heap[(μ b).1]? = some (.map E clock)/\Yt ρ es E.toList:=by
 obtain ⟨h1,h2⟩:=hs.box b x hb;have ha:x.arr=false:=by
  cases h:x.arr with
  |false=>rfl
  |true=>unfold Bx.mp at hm;rw[if_pos h] at hm;cases hm
 have hmm:=hm;unfold Bx.mp at hmm;rw[if_neg (by simp[ha])] at hmm;obtain ⟨m,hcs⟩:=XU hmm;have hl:1<=(μ b).2:=by rw[hcs] at h1;simpa using h1
 refine⟨ha,by omega,hl,?_⟩;rcases h2 with h0 | ⟨o,h3,h4⟩
 ·omega
 ·unfold ub at h4;rw[uI,hm] at h4;obtain ⟨E,clock,rfl,h5⟩:=h4;exact⟨E,clock,h3,h5⟩
theorem Jp {b:Nat} {c:Value} (h:Rv ρ (some μ) (.map b) c):c=.map (some (μ b).1):=by
 generalize hg:(some μ:Option Lay)=o at h;cases h with
 |map μ' b=>cases hg;rfl
theorem SZ {P:Program} {t:TypeId} {m k:AV} {cm ck:Value} {ok:Bool} {K:AV->Prop} (hs:Sat ds n μ0 ρ0 w0 ρ μ σ a w) (hm:Rv ρ (some μ) m cm) (hk:Rv ρ (some μ) k ck) (h:kX P t σ m k ok K) :
  ∃v cv,(Instr.lookup t cm ck ok).run P w=.ok cv w/\Rv ρ (some μ) v cv/\K v:=by
 unfold kX at h;split at h
 ·rename_i kt et b hu;split at h
  ·rename_i x z hb hz;split at h
   ·rename_i es hes;obtain ⟨hks,⟨c,hc,hkv⟩,h⟩:=h;obtain ⟨v,f,hg,hK⟩:=uq h;obtain ⟨harr,hk0,hl,E,clock,hheap,hmv⟩:=hs.zV hb hes;cases Jp hm;cases Jo _ _ _ hk.norm hc;obtain ⟨h1,_,h3⟩:=NS hkv (Pg hmv hks) w E.isEmpty;obtain ⟨q1,q2⟩:=Xg hmv;have tail:∀(cv:Value),Rv ρ (some μ) v cv->Rv ρ (some μ) (if ok then .tup [v,.bool f] else v) (if ok then .tuple #[cv,.bool f] else cv):=by
     intro cv hv;cases ok with
     |false=>exact hv
     |true =>
      refine .tup _ _ _ rfl fun j=>?_
      match j with
      |0=>exact hv
      |1=>exact .bool ..
      |j+2=>exact .undef ..
    rcases h3 with ⟨r1,r2⟩ | ⟨j,e,r1,r2,r3⟩
    ·have hf:f=false:=by
      cases f with
      |false=>rfl
      |true =>
       obtain ⟨i,hi,_⟩:=hg;have hlt:i<es.length:=(List.getElem?_eq_some_iff.1 hi).1;obtain ⟨k',v',g1,g2,_⟩:=q2 i _ (List.getElem?_eq_getElem (by rw[<- q1];exact hlt));rw[hi] at g1;cases g1;rw[hc] at g2;exact absurd (Option.some.inj g2).symm (r2 _ (List.getElem_mem _))
     subst hf;have hg:(∀v',AV.agg [k.norm,v']∉es)/\v=z.norm:=hg;obtain ⟨cz,z1,_,z3⟩:=jF hz w;refine⟨_,_,?_,tail cz ?_,hK⟩
     ·cases ok<;>simp[Instr.lookup,MapKept.run_getObj_map hheap,run_underlying hu,Result.andThen,h1,r1,z1]
     ·rw[hg.2,z3];exact(Rv.ofV ..).norm
    ·obtain ⟨k',v',g1,g2,g3⟩:=q2 j e r2;rw[r3] at g2;have:k'=k.norm:=Oh g2 hc;subst this;cases f with
     |false=>exact absurd (List.mem_of_getElem? g1) (hg.1 v')
     |true =>
      obtain ⟨i,hi,hu'⟩:=hg;cases hu' j v' g1;rw[hi] at g1;cases g1;refine⟨_,_,?_,tail e.val (g3.any (some μ)),hK⟩;cases ok<;>simp[Instr.lookup,MapKept.run_getObj_map hheap,run_underlying hu,Result.andThen,h1,r1]
   ·exact h.elim
  ·exact h.elim
 ·exact h.elim
theorem Lb {P:Program} {t:TypeId} {m k v:AV} {cm ck cv:Value} {K:St->Prop} (hs:Sat ds n μ0 ρ0 w0 ρ μ σ a w) (hm:Rv ρ (some μ) m cm) (hk:Rv ρ (some μ) k ck) (hv:Rv ρ (some μ) v cv) (h:La P t σ m k v K) :
  ∃σ' w',(Instr.mapUpdate t cm ck cv).run P w=.ok () w'/\Sat ds n μ0 ρ0 w0 ρ μ σ' a w'/\K σ':=by
 unfold La at h;split at h
 ·rename_i kt et b hu;split at h
  ·rename_i x hb;split at h
   ·rename_i es hes;obtain ⟨hks,⟨c,hc,hkv⟩,es',hput,hK⟩:=h;obtain ⟨harr,hk0,hl,E,clock,hheap,hmv⟩:=hs.zV hb hes;cases Jp hm;cases Jo _ _ _ hk.norm hc;have hvc:Rv ρ none v.zF.norm cv:=by
     unfold AV.zF;split
     ·rename_i hval;exact(hv.zn hval).norm
     ·exact .undef ..
    obtain ⟨h1,h2,h3⟩:=NS hkv (Pg hmv hks) w false;obtain ⟨q1,q2⟩:=Xg hmv;have fin:∀(o:Obj) (E':Array MapEntry) (clock':Nat),o=.map E' clock'->Yt ρ es' E'.toList->(Instr.mapUpdate t (.map (some (μ b).1)) ck cv).run P w=.ok () { w with heap:=w.heap.setIfInBounds (μ b).1 o } ->
      ∃σ' w',(Instr.mapUpdate t (.map (some (μ b).1)) ck cv).run P w=.ok () w'/\Sat ds n μ0 ρ0 w0 ρ μ σ' a w'/\K σ':=by
     intro o E' clock' ho hE hrun;obtain ⟨s1,s2⟩:=MapKept.heap_set (o':=o) hheap;refine⟨_,_,hrun,hs.zP (cs:=[.iface 1000000 (.slc 3 es')]) hb hk0 ⟨rfl,rfl,rfl,by simp,fun r hr=>s2 r hr⟩ s1 ?_ hl,hK⟩;unfold ub lev;rw[if_neg (by simp[harr])];exact⟨E',clock',ho,hE⟩
    rcases h3 with ⟨r1,r2⟩ | ⟨j,e,r1,r2,r3⟩
    ·refine fin _ (E.push ⟨ck,cv,clock⟩) (clock+1) rfl ?_ ?_
     ·rcases hput with ⟨i,v0,hi,_⟩ | ⟨_,rfl⟩
      ·have hlt:i<es.length:=(List.getElem?_eq_some_iff.1 hi).1;obtain ⟨k',v',g1,g2,_⟩:=q2 i _ (List.getElem?_eq_getElem (by rw[<- q1];exact hlt));rw[hi] at g1;cases g1;rw[hc] at g2;exact absurd (Option.some.inj g2).symm (r2 _ (List.getElem_mem _))
      ·rw[Array.toList_push];exact TX hmv hc hvc
     ·simp[Instr.mapUpdate,MapKept.run_getObj_map hheap,run_underlying hu,Result.andThen,h1,r1,MapKept.run_setObj_map _ hheap]
    ·obtain ⟨k',v',g1,g2,g3⟩:=q2 j e r2;rw[r3] at g2;have:k'=k.norm:=Oh g2 hc;subst this;have hej:E[j]? = some e:=by simpa using r2
     refine fin _ (E.modify j fun e=>{ e with key:=ck,val:=cv }) clock rfl ?_ ?_
     ·rcases hput with ⟨i,v0,hi,hu',rfl⟩ | ⟨hn,_⟩
      ·cases hu' j v' g1;rw[Array.toList_modify];exact Wj hmv fun _ _=>⟨hc,hvc⟩
      ·exact absurd (List.mem_of_getElem? g1) (hn v')
     ·simp[Instr.mapUpdate,MapKept.run_getObj_map hheap,run_underlying hu,Result.andThen,h1,r1,hej,r3,h2,MapKept.run_setObj_map _ hheap]
   ·exact h.elim
  ·exact h.elim
 ·exact h.elim
theorem OL {P:Program} {t:TypeId} {d:Nat} {K:St->Prop} (hs:Sat ds n μ0 ρ0 w0 ρ μ σ a w) (h:T2 n d t σ K) :
  ∃cv w' μ' σ',(Instr.makeMap t none).run P w=.ok cv w'/\Sat ds n μ0 ρ0 w0 ρ μ' σ' (a.put (some d) cv) w'/\K σ':=by
 unfold T2 at h;split at h
 ·rename_i hh;simp only[Bool.and_eq_true,decide_eq_true_eq] at hh;obtain ⟨⟨h1,h3⟩,h4⟩:=hh;refine⟨.map (some w.heap.size),w.alloc (.map #[] 0),_,_,by simp[Instr.makeMap,Result.andThen],hs.zt (o:=.map #[] 0) (B:=w.heap.size) (κ:=1) h1 (by simp[Bx.refs,AV.zd,AV.refs]) h3 h4 (qH.alloc w _) (.inr ⟨(MapKept.heap_alloc w _).1,?_⟩) (by simp) ?_ ?_ (.inl hs.size) ?_,h⟩
  ·exact⟨#[],0,rfl,trivial⟩
  ·intro b cs _ hb hk he;obtain ⟨y,hy,rfl⟩:=yK hb;rcases (hs.box b y hy).blk with h0 | ⟨o',h1,_⟩
   ·exact hk h0
   ·rw[he] at h1;rw[Array.getElem?_eq_none (Nat.le_refl _)] at h1;cases h1
  ·cases hr:ρ w.heap.size with
   |none=>rfl
   |some o =>
    have:=hs.ro _ _ hr;rw[Array.getElem?_eq_none (Nat.le_refl _)] at this;cases this
  ·have:=Rv.map (ρ:=ρ) (vt μ (n+d) (w.heap.size,1)) (n+d);simpa[vt] using this
 ·exact h.elim
end
end Go.Proofs.YtkojpnkknehhmaaGreatDoor

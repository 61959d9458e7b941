/- Each operation alone, for all operations that may stand in a region of any order. -/
import Derived.Test.YtkojpnkknehhmaaGreatDoorD3
namespace Go.Proofs.YtkojpnkknehhmaaGreatDoor
open Go.RowKit
theorem WH (σ:St) (d:Option Nat) (v:AV):σ.zk d v []=σ.put d v:=by cases d<;>rfl
theorem jg.ev {ops:Array Oper} {o:Oper} {R:List Nat} {σ τ:St} (h:jg ops o R σ τ) (x:Operand) (hx:x∈o.op.operands):ev σ x=ev τ x:=by
 cases x with
 |tmp t=>exact h.sl t (List.mem_append_left _ (List.mem_filterMap.2 ⟨.tmp t,by simpa using hx,rfl⟩))
 |_=>rfl
theorem UF {ops:Array Oper} {o:Oper} {R:List Nat} {σ τ:St} (h:jg ops o R σ τ) (l:Array Operand) (hl:∀x∈l,x∈o.op.operands):l.toList.map (ev σ)=l.toList.map (ev τ) :=
 List.map_congr_left fun x hx=>h.ev x (hl x (by simpa using hx))
section
variable {P:Program} {S:Specs} {n:Nat}
theorem To {t:TypeId} {σ:St} {m k:AV} {ok:Bool} {K:AV->Prop} (h:kX P t σ m k ok K):∃v,K v/\∀τ:St,(∀b∈GM m,σ.bx.getD b none=τ.bx.getD b none)->∀K',K' v->kX P t τ m k ok K':=by
 unfold kX at h;split at h
 ·rename_i kt et b hu;split at h
  ·rename_i x z hb hz;split at h
   ·rename_i es hes;obtain ⟨h1,h2,h3⟩:=h;obtain ⟨v,⟨f,g1,g2⟩,h5⟩:=uU et _ h3;refine⟨_,g2,fun τ ht K' hk=>?_⟩;unfold kX;rw[hu];simp only;rw[<- ht b (by simp[GM]),hb,hz];simp only[hes];exact⟨h1,h2,h5 _ ⟨f,g1,hk⟩⟩
   ·exact h.elim
  ·exact h.elim
 ·exact h.elim
theorem Wi {t:TypeId} {σ:St} {x:AV} {K:AV->Prop} (h:vT P t σ x K):∃v,K v/\∀τ:St,(∀b∈Yf x,σ.bx.getD b none=τ.bx.getD b none)->∀K',K' v->vT P t τ x K':=by
 unfold vT at h;split at h
 ·rename_i cs off;split at h
  ·rename_i v hv;exact⟨v,h,fun τ _ K' hk=>by simp only[vT,hv];exact hk⟩
  ·exact h.elim
 ·rename_i b off;split at h
  ·rename_i y hy;split at h
   ·exact h.elim
   rename_i hm;split at h
   ·rename_i ha;obtain ⟨v,h1,h2⟩:=uU _ _ h;refine⟨v,h1.2,fun τ ht K' hk=>?_⟩;simp only[vT,<- ht b (by simp[Yf]),hy];rw[if_neg hm,if_pos ha];exact h2 _ ⟨h1.1,hk⟩
   ·rename_i ha;split at h
    ·rename_i v hv;refine⟨v,h,fun τ ht K' hk=>?_⟩;simp only[vT,<- ht b (by simp[Yf]),hy];rw[if_neg hm,if_neg ha,hv];exact hk
    ·exact h.elim
  ·exact h.elim
 ·exact h.elim
theorem Xr {t:TypeId} {σ:St} {a v:AV} {K:St->Prop} (h:xW P t σ a v K):∃b x,Yf a=[b]/\b<σ.bx.length/\K { σ with bx:=σ.bx.set b (some x) } /\
  ∀τ:St,(∀b∈Yf a,σ.bx.getD b none=τ.bx.getD b none)->∀K':St->Prop,K' { τ with bx:=τ.bx.set b (some x) }->xW P t τ a v K':=by
 unfold xW at h;split at h
 ·rename_i b off;split at h
  ·rename_i y hy;have hlt:=vj hy;split at h
   ·rename_i hc;split at h
    ·exact h.elim
    rename_i hm;split at h
    ·rename_i ha;split at h
     ·rename_i ht;refine⟨b,_,rfl,hlt,h.2,fun τ hτ K' hk=>?_⟩;simp only[xW,<- hτ b (by simp[Yf]),hy];rw[if_pos hc,if_neg hm,if_pos ha,if_pos ht];exact⟨h.1,hk⟩
     ·exact h.elim
    ·rename_i ha;split at h
     ·rename_i hl;refine⟨b,_,rfl,hlt,h,fun τ hτ K' hk=>?_⟩;simp only[xW,<- hτ b (by simp[Yf]),hy];rw[if_pos hc,if_neg hm,if_neg ha,if_pos hl];exact hk
     ·exact h.elim
   ·exact h.elim
  ·exact h.elim
 ·exact h.elim
theorem jq.kill {d b:Nat} {σ:St} (h:jq n d σ):jq n d { σ with bx:=σ.bx.set b none } :=
 ⟨h.1,fun i x hi hx=>by
  have hx:(σ.bx.set b none).getD i none=some x:=hx;rw[qo] at hx;split at hx
  ·cases hx
  ·exact h.2 i x hi hx⟩
theorem xE {d:Nat} {x:Bx} {p:AV} {σ:St} {K:St->Prop} (h:qV n d x p σ K):n+d<σ.bx.length/\K { sl:=σ.sl.set d p,bx:=σ.bx.set (n+d) (some x) } /\
  ∀τ:St,σ.sl.length=τ.sl.length->σ.bx.length=τ.bx.length->jq n d τ->∀K':St->Prop,K' { sl:=τ.sl.set d p,bx:=τ.bx.set (n+d) (some x) }->qV n d x p τ K':=by
 simp only[qV] at h;split at h
 ·rename_i hc;simp only[Bool.and_eq_true,decide_eq_true_eq] at hc;refine⟨hc.2,h,fun τ l1 l2 hF K' hk=>?_⟩;simp only[qV];rw[if_pos]
  ·exact hk
  ·have:=TL hF;simp only[vG] at this;simp only[this,Bool.and_eq_true,decide_eq_true_eq];exact⟨⟨⟨⟨hc.1.1.1.1,trivial⟩,hc.1.1.2⟩,by rw[<- l1];exact hc.1.2⟩,by rw[<- l2];exact hc.2⟩
 ·exact h.elim
theorem Wx {k:Nat} {σ:St} {x:AV} {K:Nat->List AV->Prop} (h:qz σ k x K):∃m cs,K m cs /\
  ∀τ:St,(∀b∈wF x,σ.bx.getD b none=τ.bx.getD b none)->∀K':Nat->List AV->Prop,K' m cs->qz τ k x K':=by
 unfold qz at h;split at h
 ·exact⟨_,_,h.2,fun τ _ K' hk=>⟨h.1,hk⟩⟩
 ·rename_i b off len esz ag;split at h
  ·rename_i cs hb;refine⟨_,_,h.2,fun τ hτ K' hk=>?_⟩;have:τ.zg b=some cs:=by
    rw[<- hb];unfold St.zg;rw[hτ b (by simp[wF])]
   simp only[qz,this];exact⟨h.1,hk⟩
  ·exact h.elim
 ·exact h.elim
theorem U8 {ts:List TypeId} {s x:AV} {d:Nat} {σ:St} {K:St->Prop} (h:jR P n ts s x d σ K) :
  ∃v y,n+d<σ.bx.length/\K (σ.zk (some d) v ((wF s).map (fun b=>(b,none))++[(n+d,some y)])) /\
   ∀τ:St,(∀b∈wF s++wF x,σ.bx.getD b none=τ.bx.getD b none)->σ.sl.length=τ.sl.length->σ.bx.length=τ.bx.length->jq n d τ ->
    ∀K':St->Prop,K' (τ.zk (some d) v ((wF s).map (fun b=>(b,none))++[(n+d,some y)]))->jR P n ts s x d τ K':=by
 unfold jR at h;split at h
 ·rename_i t t2;split at h
  ·rename_i e e2 hu hu2;split at h
   ·exact h.elim
   ·rename_i hc;obtain ⟨m,cs,h1,h2⟩:=Wx h;have key:∀τ:St,(∀b∈wF s++wF x,σ.bx.getD b none=τ.bx.getD b none)->∀K',_->jR P n [t,t2] s x d τ K':=fun τ hτ K' hk=>by
     simp only[jR,hu,hu2];rw[if_neg hc];exact h2 τ (fun b hb=>hτ b (List.mem_append_right _ hb)) _ hk
    split at h1
    ·obtain ⟨q1,q2,q3⟩:=xE h1.2;exact⟨_,_,q1,q2,fun τ hτ l1 l2 hF K' hk=>key τ hτ K' ⟨h1.1,q3 τ l1 l2 hF K' hk⟩⟩
    ·obtain ⟨q1,q2,q3⟩:=xE h1.2;exact⟨_,_,q1,q2,fun τ hτ l1 l2 hF K' hk=>key τ hτ K' ⟨h1.1,q3 τ l1 l2 hF K' hk⟩⟩
    ·rename_i b len esz ag;split at h1
     ·rename_i bx hb;split at h1
      ·rename_i hcc;obtain ⟨q1,q2,q3⟩:=xE h1.2;refine⟨_,_,by simpa using q1,q2,fun τ hτ l1 l2 hF K' hk=>key τ hτ K' ?_⟩;simp only[<- hτ b (by simp[wF]),hb];rw[if_pos hcc];exact⟨h1.1,q3 { τ with bx:=τ.bx.set b none } l1 (by simpa using l2) hF.kill K' hk⟩
      ·exact h1.elim
     ·exact h1.elim
    ·exact h1.elim
  ·exact h.elim
 ·exact h.elim
theorem Ul {frs:Ways} {o:Oper} {c:Call} {σ σ':St} {l:List AV} (ho:o.op=.call c) (hl:YT σ c=some l) :
  fpW n frs o σ σ'=(((AV.za l).map (·.1)).filter fun b=>(σ'.bx.getD b none).isNone)++(wrB frs σ c++frW n frs c o.dst):=by
 obtain ⟨callee,args,ats⟩:=c;cases callee with
 |builtin b=>cases hl
 |_=>simp only[fpW,ho,JC,hl]
theorem TR:∀(l:List Nat) (bx:List (Option Bx)),((l.map fun b=>(b,(none:Option Bx))).foldl (fun l e=>l.set e.1 e.2) bx).length=bx.length
 |[],_=>rfl
 |b::r,bx=>by
  rw[List.map_cons,List.foldl_cons,TR r];simp
theorem KN {w:Ways} {σ:St} {f:Operand} {args:Array Operand} {ats:Array TypeId} {g:FuncId} {first caps:List AV} (hnff:∀h,f≠.func h) (hfv:ev σ f=.fn g first caps)
  (h:MO w σ ⟨.value f,args,ats⟩=false):w.zr g=none:=by
 have key:(w.zr g).isSome=false:=by
  unfold MO at h;cases f with
  |func g2=>exact absurd rfl (hnff g2)
  |tmp t=>simp only[hfv] at h;exact h
  |const t=>simp only[hfv] at h;exact h
  |global t=>simp only[hfv] at h;exact h
 cases hh:w.zr g with
 |none=>rfl
 |some x=>rw[hh] at key;cases key
theorem O6 {P:Program} {t:TypeId} {σ τ:St} {m:Nat} {es:List AV} {lo hi mx:Option AV}:kA P t σ (.slc m es) lo hi mx=kA P t τ (.slc m es) lo hi mx:=by
 unfold kA;rfl
theorem O5 {P:Program} {t:TypeId} {σ:St} {x:AV} {lo hi mx:Option AV}:Ang (kA P t σ x lo hi mx):=by
 intro K h;unfold kA at h;repeat' split at h
 all_goals first
  |exact h.elim
  |(obtain ⟨hc,h2⟩:=h;refine⟨_,h2,fun K' hk=>?_⟩;have fin:=And.intro hc hk;clear hc h2 hk;revert fin;unfold kA;simp only[*,Bool.false_eq_true,↓reduceIte];first | exact id | exact fun h=>⟨h.1,h.2⟩)
  |(refine⟨_,h,fun K' hk=>?_⟩;clear h;revert hk;unfold kA;simp only[*,↓reduceIte];exact id)
theorem Mf {ops:Array Oper} {o:Oper} {σ:St} {K:St->Prop} {R F:List Nat} (hf:fpR P S.frs o σ=some (R,F)) (h:aop P S n o σ K) :
  ∃v U,K (σ.zk o.dst v U)/\(∀e∈U,e.1∈fpW n S.frs o σ (σ.zk o.dst v U)/\∀x,e.2=some x->(σ.zk o.dst v U).bx.getD e.1 none=some x) /\
   ∀τ,jg ops o R σ τ->(∀d∈F,jq n d τ)->∀K',K' (τ.zk o.dst v U)->aop P S n o τ K':=by
 have pur:∀v,K (σ.put o.dst v)->(∀τ,jg ops o R σ τ->∀K':St->Prop,K' (τ.put o.dst v)->aop P S n o τ K')->∃v U,K (σ.zk o.dst v U)/\(∀e∈U,e.1∈fpW n S.frs o σ (σ.zk o.dst v U)/\∀x,e.2=some x->(σ.zk o.dst v U).bx.getD e.1 none=some x) /\
   ∀τ,jg ops o R σ τ->(∀d∈F,jq n d τ)->∀K',K' (τ.zk o.dst v U)->aop P S n o τ K':=fun v h1 h2 =>
  ⟨v,[],by rw[WH];exact h1,by simp,fun τ ha _ K' hk=>h2 τ ha K' (by rw[WH] at hk;exact hk)⟩
 have pop:∀(op:Op),op=o.op->(∀τ K',aop P S n o τ K'=match jC P (ev τ) op with | some v=>K' (τ.put o.dst v) | none=>False)->∃v U,K (σ.zk o.dst v U)/\(∀e∈U,e.1∈fpW n S.frs o σ (σ.zk o.dst v U)/\∀x,e.2=some x->(σ.zk o.dst v U).bx.getD e.1 none=some x) /\
   ∀τ,jg ops o R σ τ->(∀d∈F,jq n d τ)->∀K',K' (τ.zk o.dst v U)->aop P S n o τ K':=by
  intro op ho he;rw[he] at h;split at h
  ·rename_i v hv;refine pur v h fun τ ha K' hk=>?_
   rw[he,<- YE (e:=ev σ) fun x hx=>ha.ev x (by rw[<- ho];exact hx),hv];exact hk
  ·exact h.elim
 have ang:∀(G:St->(AV->Prop)->Prop),(∀τ K',aop P S n o τ K'=G τ fun v=>K' (τ.put o.dst v))->(∀τ,Ang (G τ))->(∀τ,jg ops o R σ τ->G σ=G τ)->∃v U,K (σ.zk o.dst v U)/\(∀e∈U,e.1∈fpW n S.frs o σ (σ.zk o.dst v U)/\∀x,e.2=some x->(σ.zk o.dst v U).bx.getD e.1 none=some x) /\
   ∀τ,jg ops o R σ τ->(∀d∈F,jq n d τ)->∀K',K' (τ.zk o.dst v U)->aop P S n o τ K':=by
  intro G hG hA hE;rw[hG] at h;obtain ⟨v,h1,h2⟩:=hA σ _ h;refine pur v h1 fun τ ha K' hk=>?_
  rw[hG,<- hE τ ha];exact h2 _ hk
 obtain ⟨dst,op,type,pos,after,guard⟩:=o;cases op with
 |alloc t =>
  simp only[aop] at h;cases dst with
  |none=>exact h.elim
  |some d =>
   simp only[fpR,Option.some.injEq,Prod.mk.injEq] at hf;obtain ⟨rfl,rfl⟩:=hf;cases hz:wz P t with
   |none=>rw[hz] at h;exact h.elim
   |some z =>
    rw[hz] at h;simp only[qV] at h;split at h
    ·rename_i hc;simp only[Bool.and_eq_true,decide_eq_true_eq] at hc;refine⟨.ref (n+d) 0,[(n+d,some ⟨t,false,z.cells⟩)],h,?_,?_⟩
     ·intro e he;simp only[List.mem_singleton] at he;subst he;refine⟨by simp[fpW],fun x hx=>?_⟩;simp only[Option.some.injEq] at hx;subst hx;simp only[St.zk,List.foldl_cons,List.foldl_nil];rw[qo,if_pos ⟨rfl,hc.2⟩]
     ·intro τ ha hF K' hk;simp only[aop,hz,qV];rw[if_pos]
      ·exact hk
      ·have:=TL (hF d (by simp));simp only[vG] at this;simp only[this,Bool.and_eq_true,decide_eq_true_eq];exact⟨⟨⟨⟨hc.1.1.1.1,trivial⟩,hc.1.1.2⟩,by rw[<- ha.l1];exact hc.1.2⟩,by rw[<- ha.l2];exact hc.2⟩
    ·exact h.elim
 |box t x=>simp[fpR] at hf
 |convert s d x =>
  simp only[aop] at h;split at h
  ·rename_i v hb;refine pur v h fun τ ha K' hk=>?_
   simp only[aop];rw[<- ha.ev x (by simp[Op.operands]),hb];exact hk
  ·rename_i hb;split at h
   ·rename_i v hv;refine pur v h fun τ ha K' hk=>?_
    simp only[aop];rw[<- ha.ev x (by simp[Op.operands]),hb];simp only;rw[<- YE (e:=ev σ) fun z hz=>ha.ev z hz,hv];exact hk
   ·exact h.elim
 |buildSlice t len ps =>
  have hno:OS S.frs dst=none:=by
   simp only[fpR] at hf;split at hf
   ·cases hf
   ·rename_i hn;cases hh:OS S.frs dst with
    |none=>rfl
    |some d=>rw[hh] at hn;simp at hn
  simp only[aop,hno] at h;split at h
  ·rename_i e hu;split at h
   ·rename_i z hz;split at h
    ·rename_i hc;split at h
     ·rename_i out hfl;split at h
      ·rename_i hto;refine pur _ h fun τ ha K' hk=>?_
       have hps:(ps.toList.map fun p=>(p.1,ev τ p.2))=ps.toList.map fun p=>(p.1,ev σ p.2):=List.map_congr_left fun p hp=>by
        rw[ha.ev p.2 (by simp only[Op.operands];exact List.mem_toArray.2 (List.mem_map.2 ⟨p,hp,rfl⟩))]
       simp only[aop,hu,hz,hps,hno];rw[if_pos hc,hfl];simp only;rw[if_pos hto];exact hk
      ·exact h.elim
     ·exact h.elim
    ·exact h.elim
   ·exact h.elim
  ·exact h.elim
 |makeSlice t l c=>simp[fpR] at hf
 |makeMap t r=>simp[fpR] at hf
 |lookup t x k ok =>
  simp only[fpR,Option.some.injEq,Prod.mk.injEq] at hf;obtain ⟨rfl,rfl⟩:=hf;simp only[aop] at h;obtain ⟨v,h1,h2⟩:=To h;refine pur v h1 fun τ ha K' hk=>?_
  simp only[aop];rw[<- ha.ev x (by simp[Op.operands]),<- ha.ev k (by simp[Op.operands])];exact h2 τ ha.bx _ hk
 |mapUpdate t x k v=>simp[fpR] at hf
 |slice t x lo hi mx =>
  have key:∃m es,ev σ x=.slc m es:=by
   simp only[fpR] at hf;split at hf
   ·split at hf
    ·exact⟨_,_,by assumption⟩
    ·cases hf
   ·cases hf
  obtain ⟨m,es,hx⟩:=key;refine ang (fun τ=>kA P t τ (ev τ x) (lo.map (ev τ)) (hi.map (ev τ)) (mx.map (ev τ))) (fun _ _=>rfl) (fun _=>O5) fun τ ha=>?_
  have e1:lo.map (ev σ)=lo.map (ev τ):=by
   cases lo with
   |none=>rfl
   |some y=>rw[Option.map_some,Option.map_some,ha.ev y (by simp[Op.operands])]
  have e2:hi.map (ev σ)=hi.map (ev τ):=by
   cases hi with
   |none=>rfl
   |some y=>rw[Option.map_some,Option.map_some,ha.ev y (by simp[Op.operands])]
  have e3:mx.map (ev σ)=mx.map (ev τ):=by
   cases mx with
   |none=>rfl
   |some y=>rw[Option.map_some,Option.map_some,ha.ev y (by simp[Op.operands])]
  rw[<- ha.ev x (by simp[Op.operands]),<- e1,<- e2,<- e3,hx];exact O6
 |load t x =>
  simp only[fpR,Option.some.injEq,Prod.mk.injEq] at hf;obtain ⟨rfl,rfl⟩:=hf;simp only[aop] at h;obtain ⟨v,h1,h2⟩:=Wi h;refine pur v h1 fun τ ha K' hk=>?_
  simp only[aop];rw[<- ha.ev x (by simp[Op.operands])];exact h2 τ ha.bx _ hk
 |store t a x =>
  simp only[fpR,Option.some.injEq,Prod.mk.injEq] at hf;obtain ⟨rfl,rfl⟩:=hf;simp only[aop] at h;obtain ⟨b,y,h0,hlt,h1,h2⟩:=Xr h;refine⟨.tup [],[(b,some y)],?_,?_,?_⟩
  ·have:σ.zk dst (.tup []) [(b,some y)]=({ σ with bx:=σ.bx.set b (some y) }:St).put dst (.tup []):=by cases dst<;>rfl
   rw[this];exact h1
  ·intro e he;simp only[List.mem_singleton] at he;subst he;refine⟨by simp[fpW,h0],fun x hx=>?_⟩;simp only[Option.some.injEq] at hx;subst hx;simp only[St.zk,List.foldl_cons,List.foldl_nil];rw[qo,if_pos ⟨rfl,hlt⟩]
  ·intro τ ha _ K' hk;simp only[aop];rw[<- ha.ev a (by simp[Op.operands]),<- ha.ev x (by simp[Op.operands])];refine h2 τ ha.bx _ ?_;have:τ.zk dst (.tup []) [(b,some y)]=({ τ with bx:=τ.bx.set b (some y) }:St).put dst (.tup []):=by cases dst<;>rfl
   rw[this] at hk;exact hk
 |indexAddr t x i=>exact ang (fun τ=>qQ P S.frs t (ev τ x) (ev τ i)) (fun _ _=>rfl) (fun _=>uA) fun τ ha=>by rw[ha.ev x (by simp[Op.operands]),ha.ev i (by simp[Op.operands])]
 |index t x i=>exact ang (fun τ=>uz P t (ev τ x) (ev τ i)) (fun _ _=>rfl) (fun _=>Ur) fun τ ha=>by rw[ha.ev x (by simp[Op.operands]),ha.ev i (by simp[Op.operands])]
 |binOp op t x y yt =>
  have hn:XY P op t (ev σ x) (ev σ y)=none:=by
   simp only[fpR] at hf;split at hf
   ·cases hf
   ·rename_i hn;cases hh:XY P op t (ev σ x) (ev σ y) with
    |none=>rfl
    |some z=>exact absurd (by rw[hh];rfl) hn
  have hd:∀op',(∀τ K',aop P S n ⟨dst,.binOp op t x y yt,type,pos,after,guard⟩ τ K'=Ws op' (ev τ x) (ev τ y) fun v=>K' (τ.put dst v))->_:=fun op' hG =>
   ang (fun τ=>Ws op' (ev τ x) (ev τ y)) hG (fun _=>uj) fun τ ha=>by rw[ha.ev x (by simp[Op.operands]),ha.ev y (by simp[Op.operands])]
  cases op with
  |quo=>exact hd .quo fun _ _=>rfl
  |rem=>exact hd .rem fun _ _=>rfl
  |shl=>exact hd .shl fun _ _=>rfl
  |shr=>exact hd .shr fun _ _=>rfl
  |_ =>
   simp only[aop,hn] at h;split at h
   ·rename_i v hv;refine pur v h fun τ ha K' hk=>?_
    simp only[aop];rw[<- ha.ev x (by simp[Op.operands]),<- ha.ev y (by simp[Op.operands]),hn];simp only;rw[<- YE (e:=ev σ) fun z hz=>ha.ev z hz,hv];exact hk
   ·exact h.elim
 |call c =>
  obtain ⟨callee,args,ats⟩:=c;have cal:∀(f:FuncId) (l:List AV),YT σ ⟨callee,args,ats⟩=some l->fpR P S.frs ⟨dst,.call ⟨callee,args,ats⟩,type,pos,after,guard⟩ σ=(if (AV.zd (AV.ze σ.zg l)).isEmpty then some ((AV.za l).map (·.1),[]) else if MP S.frs σ ⟨callee,args,ats⟩ && X6 σ l (yv σ l) then some (yv σ l,[]) else if IH S.frs σ ⟨callee,args,ats⟩ && U7 σ l (yv σ l) then some (yv σ l,[]) else none)->(MP S.frs σ ⟨callee,args,ats⟩=true->S.frs.ro.contains f=true)->jG P S n f l dst σ K ->
    (∀τ,jg ops ⟨dst,.call ⟨callee,args,ats⟩,type,pos,after,guard⟩ R σ τ->∀K',aop P S n ⟨dst,.call ⟨callee,args,ats⟩,type,pos,after,guard⟩ τ K'=jG P S n f l dst τ K')->∃v U,K (σ.zk dst v U)/\(∀e∈U,e.1∈fpW n S.frs ⟨dst,.call ⟨callee,args,ats⟩,type,pos,after,guard⟩ σ (σ.zk dst v U)/\∀x,e.2=some x->(σ.zk dst v U).bx.getD e.1 none=some x) /\
   ∀τ,jg ops ⟨dst,.call ⟨callee,args,ats⟩,type,pos,after,guard⟩ R σ τ->(∀d∈F,jq n d τ)->∀K',K' (τ.zk dst v U)->aop P S n ⟨dst,.call ⟨callee,args,ats⟩,type,pos,after,guard⟩ τ K':=by
   intro f l hl hfp hisro hc hτ;rw[hfp] at hf;split at hf
   ·rename_i he;simp only[Option.some.injEq,Prod.mk.injEq] at hf;obtain ⟨rfl,rfl⟩:=hf;obtain ⟨v,U,h1,h2,h3⟩:=QD (List.isEmpty_iff.1 he) hc;refine⟨v,U,h1,?_,fun τ ha _ K' hk=>by rw[hτ τ ha];exact h3 τ ha.bx K' hk⟩;intro e hm;rcases h2 with rfl | rfl
    ·simp at hm
    ·obtain ⟨b,hb,rfl⟩:=List.mem_map.1 hm;refine⟨?_,fun x hx=>by simp at hx⟩;rw[Ul rfl hl];refine List.mem_append_left _ (List.mem_filter.2 ⟨hb,?_⟩);simp only[St.zk,List.getD,Ph];have:((AV.za l).map (·.1)).contains b=true:=by simpa using hb
     rw[this];cases σ.bx[b]?<;>simp
   ·split at hf
    ·rename_i hc2;simp only[Bool.and_eq_true] at hc2;simp only[Option.some.injEq,Prod.mk.injEq] at hf;obtain ⟨rfl,rfl⟩:=hf;obtain ⟨v,h1,h2⟩:=WY (hisro hc2.1) hc2.2 hc;exact pur v h1 fun τ ha K' hk=>by rw[hτ τ ha];exact h2 τ ha.bx K' hk
    ·split at hf
     ·rename_i hc3;simp only[Bool.and_eq_true] at hc3;simp only[Option.some.injEq,Prod.mk.injEq] at hf;obtain ⟨rfl,rfl⟩:=hf;obtain ⟨v,U,h1,h2,h3⟩:=WZ hc3.2 hc;refine⟨v,U,h1,fun e he=>⟨?_,(h2 e he).2⟩,fun τ ha _ K' hk=>by rw[hτ τ ha];exact h3 τ ha.bx K' hk⟩;rw[Ul rfl hl];refine List.mem_append_right _ (List.mem_append_left _ ?_);unfold wrB;rw[if_pos hc3.1,hl];exact(h2 e he).1
     ·cases hf
  cases hnf:MN S.frs ⟨callee,args,ats⟩ with
  |true =>
   obtain ⟨g,rfl,hg⟩:∃g,callee=.value (.func g)/\S.frs.fr.contains g=true:=by
    unfold MN at hnf;split at hnf
    ·rename_i f hc;exact⟨f,hc,hnf⟩
    ·cases hnf
   simp only[fpR,hnf,if_true] at hf;simp only[aop] at h;rw[if_pos hg] at h;have hG:∀τ,jg ops ⟨dst,.call ⟨.value (.func g),args,ats⟩,type,pos,after,guard⟩ R σ τ->∀K',aop P S n ⟨dst,.call ⟨.value (.func g),args,ats⟩,type,pos,after,guard⟩ τ K'=ui P S n g (args.toList.map (ev σ)) dst τ K':=fun τ ha K'=>by
    rw[UF ha args (fun x hx=>by simp[Op.operands,Call.operands,hx])];simp only[aop];rw[if_pos hg]
   unfold frR at hf;split at hf
   ·cases hf
   rename_i hmut;have hmut:Us (args.toList.map (ev σ))=none:=by
    cases hh:Us (args.toList.map (ev σ)) with
    |none=>rfl
    |some x=>exact absurd (by rw[hh];rfl) hmut
   split at hf
   ·rename_i b hb;have hb:XG P g=some b:=hb;simp only[ui,hb] at h;split at h
    ·rename_i hargs;split at h
     ·rename_i hx hy hz;refine pur _ h.2 fun τ ha K' hk=>?_
      rw[hG τ ha];simp only[ui,hb,hargs,hx,hy,hz];exact⟨h.1,hk⟩
     ·exact h.elim
    ·exact h.elim
   ·rename_i hb;have hb:XG P g=none:=hb;split at hf
    ·rename_i d;simp only[Option.some.injEq,Prod.mk.injEq] at hf;obtain ⟨rfl,rfl⟩:=hf;simp only[ui,hb] at h;unfold Y3 at h;rw[hmut] at h;simp only at h;split at h
     ·rename_i d' e hd' he;cases hd';split at h
      ·rename_i htt;obtain ⟨es,hfr,hK⟩:=h;obtain ⟨q1,q2,q3⟩:=xE hK;refine⟨_,[(n+d,some _)],q2,?_,fun τ ha hF K' hk=>?_⟩
       ·intro e2 he2;simp only[List.mem_singleton] at he2;subst he2;refine⟨?_,fun x hx=>?_⟩
        ·rw[Ul rfl rfl];refine List.mem_append_right _ (List.mem_append_right _ ?_);unfold frW;rw[if_pos hnf];exact List.mem_singleton.2 rfl
        ·simp only[Option.some.injEq] at hx;subst hx;simp only[St.zk,List.foldl_cons,List.foldl_nil];rw[qo,if_pos ⟨rfl,q1⟩]
       ·rw[hG τ ha];simp only[ui,hb];unfold Y3;rw[hmut];simp only[he];rw[if_pos htt];exact⟨es,hfr,q3 τ ha.l1 ha.l2 (hF d (by simp)) K' hk⟩
      ·exact h.elim
     ·exact h.elim
    ·cases hf
  |false =>
  have hnl:MO S.frs σ ⟨callee,args,ats⟩=false:=by
   cases hh:MO S.frs σ ⟨callee,args,ats⟩ with
   |false=>rfl
   |true=>simp only[fpR,hnf,hh,if_true] at hf;cases hf
  have cX:∀g l τ K,S.frs.zr g=none->vR P S n g l dst τ K=jG P S n g l dst τ K:=fun g l τ K hg=>by unfold vR;rw[hg];rfl
  cases callee with
  |value f =>
   have clos:∀g first caps,(∀h,f≠.func h)->ev σ f=.fn g first caps->vR P S n g (first++(args.toList.map (ev σ)++caps)) dst σ K->_:=fun g first caps hnff hfv hc =>
    have hgl:S.frs.zr g=none :=
     KN hnff hfv hnl
    cal g (first++(args.toList.map (ev σ)++caps)) (by cases f<;>simp_all [YT]) (by simp only[fpR,hnf,hnl];cases f<;>simp_all [YT]) (by cases f<;>simp_all [MP,WA]) (by rw[cX _ _ _ _ hgl] at hc;exact hc) fun τ ha K'=>by
     have h1:=ha.ev f (by simp[Op.operands,Call.operands]);have h2:=UF ha args (fun x hx=>by simp[Op.operands,Call.operands,hx]);rw[h2];rw[hfv] at h1;cases f with
     |func g2=>exact absurd rfl (hnff g2)
     |tmp t=>simp only[aop,<- h1];exact cX _ _ _ _ hgl
     |const t=>simp only[aop,<- h1];exact cX _ _ _ _ hgl
     |global t=>simp only[aop,<- h1];exact cX _ _ _ _ hgl
   cases f with
   |func g =>
    have hgl:S.frs.zr g=none:=by
     have hnl:(S.frs.zr g).isSome=false:=hnl;cases hh:S.frs.zr g with
     |none=>rfl
     |some x=>rw[hh] at hnl;cases hnl
    have hfr:S.frs.fr.contains g=false:=hnf;simp only[aop] at h;rw[if_neg (by rw[hfr];simp),cX _ _ _ _ hgl] at h;have hfp:fpR P S.frs ⟨dst,.call ⟨.value (.func g),args,ats⟩,type,pos,after,guard⟩ σ=(if (AV.zd (AV.ze σ.zg (args.toList.map (ev σ)))).isEmpty then some ((AV.za (args.toList.map (ev σ))).map (·.1),[]) else if MP S.frs σ ⟨.value (.func g),args,ats⟩ && X6 σ (args.toList.map (ev σ)) (yv σ (args.toList.map (ev σ))) then some (yv σ (args.toList.map (ev σ)),[]) else if IH S.frs σ ⟨.value (.func g),args,ats⟩ && U7 σ (args.toList.map (ev σ)) (yv σ (args.toList.map (ev σ))) then some (yv σ (args.toList.map (ev σ)),[]) else none):=by
     simp only[fpR,hnf,hnl];rfl
    exact cal g (args.toList.map (ev σ)) rfl hfp id h fun τ ha K'=>by
     rw[UF ha args (fun x hx=>by simp[Op.operands,Call.operands,hx])];simp only[aop];rw[if_neg (by rw[hfr];simp)];exact cX _ _ _ _ hgl
   |tmp t =>
    simp only[aop] at h;split at h
    ·rename_i g first caps hfv;exact clos g first caps (by simp) hfv h
    ·exact h.elim
   |const c =>
    simp only[aop] at h;split at h
    ·rename_i g first caps hfv;exact clos g first caps (by simp) hfv h
    ·exact h.elim
   |global g =>
    simp only[aop,ev] at h;cases hgg:Up g<;>simp only[hgg] at h
  |invoke r name =>
   have hil:S.frs.il=[]:=by simpa[MO] using hnl
   have hgl:∀g,S.frs.zr g=none:=fun g=>by
    unfold Ways.zr;split
    ·rfl
    ·rw[hil];rfl
   simp only[aop] at h;split at h
   ·rename_i t v hr;split at h
    ·rename_i g hg;rw[cX _ _ _ _ (hgl g)] at h;refine cal g (v::args.toList.map (ev σ)) (by simp[YT,hr]) (by simp only[fpR,hnf,hnl];simp[YT,hr]) (by simp[MP,WA]) h fun τ ha K'=>?_
     have h1:=ha.ev r (by simp[Op.operands,Call.operands]);rw[UF ha args (fun x hx=>by simp[Op.operands,Call.operands,hx])];rw[hr] at h1;simp only[aop,<- h1,hg];exact cX _ _ _ _ (hgl g)
    ·exact h.elim
   ·exact h.elim
  |builtin b =>
   cases b with
   |append =>
    simp only[aop] at h;have hx:∃s x d,args.toList.map (ev σ)=[s,x]/\dst=some d/\jR P n ats.toList s x d σ K:=by
     split at h
     ·rename_i hargs;exact⟨_,_,_,hargs,rfl,h⟩
     ·exact h.elim
    obtain ⟨s,x,d,hargs,rfl,h'⟩:=hx
    ·have hfp:fpR P S.frs ⟨some d,.call ⟨.builtin .append,args,ats⟩,type,pos,after,guard⟩ σ=J4 (args.toList.map (ev σ)) (some d):=by
      simp only[fpR,hnf,hnl];rfl
     rw[hfp,hargs] at hf;simp only[J4,Option.some.injEq,Prod.mk.injEq] at hf;obtain ⟨rfl,rfl⟩:=hf;obtain ⟨v,y,hlt,h1,h2⟩:=U8 h';refine⟨v,_,h1,?_,fun τ ha hF K' hk=>?_⟩
     ·intro e he;simp only[fpW,hargs,Du];rcases List.mem_append.1 he with he | he
      ·obtain ⟨b,hb,rfl⟩:=List.mem_map.1 he;exact⟨List.mem_append_left _ hb,fun x hx=>by cases hx⟩
      ·simp only[List.mem_singleton] at he;subst he;refine⟨by simp,fun x hx=>?_⟩;simp only[Option.some.injEq] at hx;subst hx;simp only[St.zk,List.foldl_append,List.foldl_cons,List.foldl_nil];rw[qo,if_pos ⟨rfl,by rw[TR];exact hlt⟩]
     ·have hm:=UF ha args (fun z hz=>by simp[Op.operands,Call.operands,hz]);rw[hargs] at hm;simp only[aop,<- hm];exact h2 τ ha.bx ha.l1 ha.l2 (hF d (by simp)) K' hk
   |_=>exact pop _ rfl fun _ _=>rfl
 |_=>exact pop _ rfl fun _ _=>rfl
end
end Go.Proofs.YtkojpnkknehhmaaGreatDoor

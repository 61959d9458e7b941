/- A region whose order is drawn: what it does in the order of the text it does in any order. A region whose order is drawn: what it does in the order of the text it does in any order (the end). -/
import Derived.Test.YtkojpnkknehhmaaGreatDoorD4
import Derived.Orders
namespace Go.Proofs.YtkojpnkknehhmaaGreatDoor
open Go.RowKit
section
variable {P:Program} {S:Specs} {n:Nat}
theorem Oz {ops:Array Oper} {j d:Nat} (hd:(qi ops.toList)[j]? = some (some d)):(ops[j]?).bind (·.dst)=some d:=by
 simp only[qi,List.getElem?_map,Array.getElem?_toList] at hd;cases ho:ops[j]? with
 |none=>simp[ho] at hd
 |some o=>simpa[ho] using hd
def Lx (frs:Ways) (n:Nat) (ops:Array Oper) (o:Oper) (R F:List Nat) (σ:St) (K:St->Prop) (G:St->(St->Prop)->Prop):Prop :=
 ∃v U,K (σ.zk o.dst v U)/\(∀e∈U,e.1∈fpW n frs o σ (σ.zk o.dst v U)/\∀x,e.2=some x->(σ.zk o.dst v U).bx.getD e.1 none=some x) /\
  ∀τ,jg ops o R σ τ->(∀d∈F,jq n d τ)->∀K',K' (τ.zk o.dst v U)->G τ K'
theorem MG {ops:Array Oper} {g:Bool} {o:Oper} {σ:St} {K:St->Prop} {R F:List Nat} (hf:fpR P S.frs o σ=some (R,F)) (h:gop P S n (qi ops.toList) g o σ K) :
  Lx S.frs n ops o R F σ K (gop P S n (qi ops.toList) g o):=by
 have run:aop P S n o σ (fun σ=>split g o.dst σ K)->Lx S.frs n ops o R F σ K (fun τ K'=>aop P S n o τ (fun σ=>split g o.dst σ K')):=by
  clear h;intro h;obtain ⟨v,U,h1,h2,h3⟩:=Mf hf h;obtain ⟨dst,op,type,pos,after,guard⟩:=o;simp only at h1 h2 h3 h ⊢;have dflt:K (σ.zk dst v U)->(∀τ:St,σ.sl.length=τ.sl.length->∀K':St->Prop,K' (τ.zk dst v U)->split g dst (τ.zk dst v U) K')->Lx S.frs n ops ⟨dst,op,type,pos,after,guard⟩ R F σ K (fun τ K'=>aop P S n ⟨dst,op,type,pos,after,guard⟩ τ (fun σ=>split g dst σ K')):=fun k1 k2 =>
   ⟨v,U,k1,h2,fun τ ha hF K' hk=>h3 τ ha hF _ (k2 τ ha.l1 K' hk)⟩
  cases g with
  |false=>exact dflt h1 fun τ _ K' hk=>hk
  |true =>
   cases dst with
   |none=>exact dflt h1 fun τ _ K' hk=>hk
   |some d =>
    by_cases hl:d<σ.sl.length
    ·have hv:∀τ:St,σ.sl.length=τ.sl.length->(τ.zk (some d) v U).sl.getD d .undef=v:=by
      intro τ ht;have hl':d<τ.sl.length:=ht▸hl;simp only[St.zk,St.put];rw[qm,if_pos ⟨rfl,hl'⟩]
     have nb:(∀b,v≠.bool b)->∀τ:St,σ.sl.length=τ.sl.length->∀K':St->Prop,split true (some d) (τ.zk (some d) v U) K'=K' (τ.zk (some d) v U):=by
      intro hnb τ ht K';unfold split;simp only[hv τ ht]
     by_cases hb:∃b,v=.bool b
     ·obtain ⟨b,hvb⟩:=hb;have hss:∀(τ:St) (u:AV),(τ.zk (some d) v U).put (some d) u=τ.zk (some d) u U:=by
       intro τ u;simp only[St.zk,St.put,List.set_set]
      have hsp:∀τ:St,σ.sl.length=τ.sl.length->∀K':St->Prop,split true (some d) (τ.zk (some d) v U) K'=br b (K' (τ.zk (some d) .tt U)) (K' (τ.zk (some d) .ff U)):=by
       intro τ ht K';have:=hv τ ht;unfold split;simp only[this,hss];rw[hvb]
      rw[hsp σ rfl] at h1;have fin:∀u,K (σ.zk (some d) u U)->(∀(K':St->Prop) (τ:St),K' (τ.zk (some d) u U)->br b (K' (τ.zk (some d) .tt U)) (K' (τ.zk (some d) .ff U)))->Lx S.frs n ops ⟨some d,op,type,pos,after,guard⟩ R F σ K (fun τ K'=>aop P S n ⟨some d,op,type,pos,after,guard⟩ τ (fun σ=>split true (some d) σ K')):=fun u k1 k2 =>
       ⟨u,U,k1,h2,fun τ ha hF K' hk=>h3 τ ha hF _ (by
        rw[hsp τ ha.l1];exact k2 K' τ hk)⟩
      cases hb:b with
      |true=>exact fin .tt (h1.1 hb) fun K' τ hk=>⟨fun _=>hk,fun e=>absurd (hb.symm.trans e) (by decide)⟩
      |false=>exact fin .ff (h1.2 hb) fun K' τ hk=>⟨fun e=>absurd (hb.symm.trans e) (by decide),fun _=>hk⟩
     ·have hnb:∀b,v≠.bool b:=fun b e=>hb ⟨b,e⟩
      exact dflt (by rw[nb hnb σ rfl] at h1;exact h1) fun τ ht K' hk=>by rw[nb hnb τ ht];exact hk
    ·have hv:∀τ:St,σ.sl.length=τ.sl.length->∀K':St->Prop,split true (some d) (τ.zk (some d) v U) K'=K' (τ.zk (some d) v U):=by
      intro τ ht K';have hl':¬ d<τ.sl.length:=ht▸hl;have:(τ.zk (some d) v U).sl.getD d .undef=.undef:=by
       simp only[St.zk,St.put];rw[qm,if_neg (fun e=>hl' e.2)];simp[List.getD,List.getElem?_eq_none (Nat.le_of_not_lt hl')]
      unfold split;simp only[this]
     exact dflt (by rw[hv σ rfl] at h1;exact h1) fun τ ht K' hk=>by rw[hv τ ht];exact hk
 have skip:K (σ.put o.dst (.tup []))->(∀τ:St,jg ops o R σ τ->∀K':St->Prop,K' (τ.put o.dst (.tup []))->gop P S n (qi ops.toList) g o τ K')->Lx S.frs n ops o R F σ K (gop P S n (qi ops.toList) g o):=fun k1 k2 =>
  ⟨.tup [],[],by rw[WH];exact k1,by simp,fun τ ha _ K' hk=>k2 τ ha K' (by rw[WH] at hk;exact hk)⟩
 unfold gop at h;split at h
 ·rename_i hg;obtain ⟨v,U,h1,h2,h3⟩:=run h;exact⟨v,U,h1,h2,fun τ ha hF K' hk=>by simp only[gop,hg];exact h3 τ ha hF K' hk⟩
 ·rename_i j want hg;split at h
  ·rename_i d hdj;have hslot:∀τ,jg ops o R σ τ->σ.sl.getD d .undef=τ.sl.getD d .undef:=fun τ ha=>ha.sl d (by
    simp only[Oper.looksAt,hg,Oz hdj];simp)
   split at h
   ·rename_i hs;split at h
    ·rename_i hw;obtain ⟨v,U,h1,h2,h3⟩:=run h;exact⟨v,U,h1,h2,fun τ ha hF K' hk=>by simp only[gop,hg,hdj,<- hslot τ ha,hs];rw[if_pos hw];exact h3 τ ha hF K' hk⟩
    ·rename_i hw;exact skip h fun τ ha K' hk=>by simp only[gop,hg,hdj,<- hslot τ ha,hs];rw[if_neg hw];exact hk
   ·rename_i hs;split at h
    ·rename_i hw;exact skip h fun τ ha K' hk=>by simp only[gop,hg,hdj,<- hslot τ ha,hs];rw[if_pos hw];exact hk
    ·rename_i hw;obtain ⟨v,U,h1,h2,h3⟩:=run h;exact⟨v,U,h1,h2,fun τ ha hF K' hk=>by simp only[gop,hg,hdj,<- hslot τ ha,hs];rw[if_neg hw];exact h3 τ ha hF K' hk⟩
   ·rename_i hs;exact skip h fun τ ha K' hk=>by simp only[gop,hg,hdj,<- hslot τ ha,hs];exact hk
   ·exact h.elim
  ·exact h.elim
structure Stp where
 p:Fp
 v:AV
 U:List (Nat × Option Bx)
def St.stp (σ:St) (s:Stp):St:=σ.zk s.p.o.dst s.v s.U
def Nl (P:Program) (S:Specs) (n:Nat) (ops:Array Oper) (s:Stp) (σ:St):Prop :=
 ∀τ,jg ops s.p.o s.p.R σ τ->(∀d∈s.p.F,jq n d τ)->∀K',K' (τ.stp s)->gop P S n (qi ops.toList) (SU ops s.p.i) s.p.o τ K'
structure WF (ops:Array Oper) (L:Nat) (s:Stp):Prop where
 keys:∀e∈s.U,e.1∈s.p.W
 refs:∀e∈s.U,∀x,e.2=some x->∀f∈x.refs,f∈s.p.rf
 slot:∀d,s.p.o.dst=some d->d<L->∀f∈s.v.refs,f∈s.p.rf
 after:∀e∈s.p.o.after,e.on<ops.size/\e.on≠s.p.i
 op:ops[s.p.i]? = some s.p.o
def TrP (P:Program) (S:Specs) (n:Nat) (ops:Array Oper):St->List Stp->St->Prop
 |σ,[],σk=>σ=σk
 |σ,s::r,σk=>Nl P S n ops s σ/\TrP P S n ops (σ.stp s) r σk
theorem WE (σ:St) (s:Stp):(σ.stp s).sl.length=σ.sl.length/\(σ.stp s).bx.length=σ.bx.length:=by
 refine⟨?_,?_⟩
 ·simp only[St.stp,St.zk];cases s.p.o.dst<;>simp[St.put]
 ·simp only[St.stp,St.zk];have:∀(U:List (Nat × Option Bx)) (bx:List (Option Bx)),(U.foldl (fun l e=>l.set e.1 e.2) bx).length=bx.length:=by
   intro U;induction U with
   |nil=>intro bx;rfl
   |cons e r ih=>intro bx;rw[List.foldl_cons,ih,List.length_set]
  exact this _ _
theorem Ow {U:List (Nat × Option Bx)} {b:Nat} (h:∀e∈U,e.1≠b):∀bx:List (Option Bx),(U.foldl (fun l e=>l.set e.1 e.2) bx)[b]? = bx[b]?:=by
 induction U with
 |nil=>intro bx;rfl
 |cons e r ih =>
  intro bx;rw[List.foldl_cons,ih fun e he=>h e (List.mem_cons_of_mem _ he),List.getElem?_set_ne (h e (by simp))]
theorem MC {U:List (Nat × Option Bx)} {b:Nat} {x:Bx}:∀ {bx:List (Option Bx)},(U.foldl (fun l e=>l.set e.1 e.2) bx).getD b none=some x->(b,some x)∈U\/bx.getD b none=some x:=by
 induction U with
 |nil=>intro bx h;exact .inr h
 |cons e r ih =>
  intro bx h;rw[List.foldl_cons] at h;rcases ih h with h | h
  ·exact .inl (List.mem_cons_of_mem _ h)
  ·rw[qo] at h;split at h
   ·rename_i hb;refine .inl ?_;obtain ⟨k,y⟩:=e;simp only at h hb;rw[h,hb.1];simp
   ·exact .inr h
theorem MB {U V:List (Nat × Option Bx)} (h:∀e∈U,∀f∈V,e.1≠f.1) (bx:List (Option Bx)) :
  V.foldl (fun l e=>l.set e.1 e.2) (U.foldl (fun l e=>l.set e.1 e.2) bx)=U.foldl (fun l e=>l.set e.1 e.2) (V.foldl (fun l e=>l.set e.1 e.2) bx):=by
 have one:∀(V:List (Nat × Option Bx)) (k:Nat) (y:Option Bx) (bx:List (Option Bx)),(∀f∈V,k≠f.1)->V.foldl (fun l e=>l.set e.1 e.2) (bx.set k y)=(V.foldl (fun l e=>l.set e.1 e.2) bx).set k y:=by
  intro V;induction V with
  |nil=>intro k y bx _;rfl
  |cons f r ih =>
   intro k y bx hk;rw[List.foldl_cons,List.foldl_cons,List.set_comm _ _ (hk f (by simp)),ih _ _ _ fun f hf=>hk f (List.mem_cons_of_mem _ hf)]
 induction U generalizing bx with
 |nil=>rfl
 |cons e r ih =>
  rw[List.foldl_cons,List.foldl_cons,ih (fun e he=>h e (List.mem_cons_of_mem _ he)),one V e.1 e.2 bx (h e (by simp))]
structure Nf (ops:Array Oper) (a b:Stp):Prop where
 apart:a.p.o.apart ops b.p.o=true
 wr:∀k∈a.p.W,k∉b.p.R
 rw_:∀k∈b.p.W,k∉a.p.R
 ww:∀k∈a.p.W,k∉b.p.W
theorem Ld {σ:St} {d:Option Nat} {v:AV} {t:Nat} (h:∀e,d=some e->e≠t):(σ.put d v).sl.getD t .undef=σ.sl.getD t .undef:=by
 cases d with
 |none=>rfl
 |some e =>
  simp only[St.put];rw[qm,if_neg (fun hh=>h e rfl hh.1.symm)]
theorem Ts {ops:Array Oper} {L:Nat} {s:Stp} {o:Oper} {R:List Nat} {σ:St} (hw:WF ops L s) (h1:∀d,s.p.o.dst=some d->d∉o.looksAt ops) (h2:∀k∈s.p.W,k∉R):jg ops o R σ (σ.stp s) where
 sl t ht:=by
  simp only[St.stp,St.zk];rw[Ld];rintro e he rfl;exact h1 e he ht
 bx b hb:=by
  simp only[St.stp,St.zk,List.getD];rw[Ow fun e he hk=>h2 e.1 (hw.keys e he) (hk▸hb)]
 l1:=(WE σ s).1.symm
 l2:=(WE σ s).2.symm
theorem jg.symm {ops:Array Oper} {o:Oper} {R:List Nat} {σ τ:St} (h:jg ops o R σ τ):jg ops o R τ σ:=⟨fun t ht=>(h.sl t ht).symm,fun b hb=>(h.bx b hb).symm,h.l1.symm,h.l2.symm⟩
theorem jg.trans {ops:Array Oper} {o:Oper} {R:List Nat} {σ τ ν:St} (h:jg ops o R σ τ) (h':jg ops o R τ ν):jg ops o R σ ν :=
 ⟨fun t ht=>(h.sl t ht).trans (h'.sl t ht),fun b hb=>(h.bx b hb).trans (h'.bx b hb),h.l1.trans h'.l1,h.l2.trans h'.l2⟩
theorem Nl.move {ops:Array Oper} {s:Stp} {σ τ:St} (h:Nl P S n ops s σ) (ha:jg ops s.p.o s.p.R σ τ):Nl P S n ops s τ:=fun ν hν hF K' hk=>h ν (ha.trans hν) hF K' hk
theorem JH {ops:Array Oper} {L:Nat} {a b:Stp} (ha:WF ops L a) (hb:WF ops L b) (h:Nf ops a b) (σ:St):(σ.stp a).stp b=(σ.stp b).stp a:=by
 obtain ⟨_,h2,_⟩:=Oper.apart_spec h.apart;have e1:((σ.put a.p.o.dst a.v).put b.p.o.dst b.v).sl=((σ.put b.p.o.dst b.v).put a.p.o.dst a.v).sl:=by
  cases hda:a.p.o.dst with
  |none=>cases b.p.o.dst<;>rfl
  |some d=>cases hdb:b.p.o.dst with
   |none=>rfl
   |some e =>
    have hne:d≠e:=fun he=>h2 d hda (by rw[hdb,he])
    simp only[St.put];rw[List.set_comm _ _ hne]
 have e2:=MB (U:=a.U) (V:=b.U) (fun e he f hf hk=>h.ww e.1 (ha.keys e he) (hk▸hb.keys f hf)) σ.bx;have e3:∀(τ:St) (bx:List (Option Bx)) (d:Option Nat) (v:AV),(({ sl:=τ.sl,bx:=bx }:St).put d v).sl=(τ.put d v).sl:=by intro τ bx d v;cases d<;>rfl
 simp only[St.stp,St.zk];have e4:(({ sl:=(σ.put a.p.o.dst a.v).sl,bx:=a.U.foldl (fun l e=>l.set e.1 e.2) σ.bx }:St).put b.p.o.dst b.v).sl=((σ.put a.p.o.dst a.v).put b.p.o.dst b.v).sl:=e3 _ _ _ _;have e5:(({ sl:=(σ.put b.p.o.dst b.v).sl,bx:=b.U.foldl (fun l e=>l.set e.1 e.2) σ.bx }:St).put a.p.o.dst a.v).sl=((σ.put b.p.o.dst b.v).put a.p.o.dst a.v).sl:=e3 _ _ _ _;rw[e4,e5,e1,e2]
theorem TrP.swap {ops:Array Oper} {L:Nat} {a b:Stp} {r:List Stp} {σ σk:St} (ha:WF ops L a) (hb:WF ops L b) (hi:Nf ops a b) (h:TrP P S n ops σ (a::b::r) σk):TrP P S n ops σ (b::a::r) σk:=by
 obtain ⟨h1,h2,h3⟩:=h;obtain ⟨q1,_,q3⟩:=Oper.apart_spec hi.apart;refine⟨h2.move (Ts ha q1 hi.wr).symm,h1.move (Ts hb q3 hi.rw_),?_⟩;rw[<- JH ha hb hi];exact h3
theorem TrP.zW {ops:Array Oper} {L:Nat} {s:Stp} {post:List Stp} {σk:St} (hs:WF ops L s):∀(pre:List Stp) (σ:St),(∀a∈pre,WF ops L a/\Nf ops a s)->TrP P S n ops σ (pre++s::post) σk->TrP P S n ops σ (s::(pre++post)) σk:=by
 intro pre;induction pre with
 |nil=>intro σ _ h;exact h
 |cons a r ih =>
  intro σ hp h;have h2:=ih (σ.stp a) (fun b hb=>hp b (List.mem_cons_of_mem _ hb)) h.2;exact TrP.swap (hp a (by simp)).1 hs (hp a (by simp)).2 ⟨h.1,h2⟩
theorem jq.stp {ops:Array Oper} {d:Nat} {s:Stp} {σ:St} (h:jq n d σ) (hw:WF ops σ.sl.length s) (hr:n+d∉s.p.rf):jq n d (σ.stp s):=by
 refine⟨fun t ht=>?_,fun b x hb hx=>?_⟩
 ·simp only[St.stp,St.zk];cases hd:s.p.o.dst with
  |none=>exact h.1 t ht
  |some e =>
   simp only[St.put];rw[qm];split
   ·rename_i he;exact fun hm=>hr (hw.slot e hd he.2 _ hm)
   ·exact h.1 t ht
 ·rcases MC hx with h1 | h1
  ·exact fun hm=>hr (hw.refs _ h1 x rfl _ hm)
  ·exact h.2 b x hb h1
end
theorem k9 {a b:List Nat} (h:XB a b=true):∀k∈a,k∉b:=by
 intro k hk hb;have:=List.all_eq_true.1 h k hk;simp[hb] at this
section
variable {P:Program} {S:Specs} {n:Nat}
theorem KD {d:Nat} {W:List Nat} {σ:St} {f:Nat} (h:f∈(σ.sl.getD d .undef).refs):f∈fpF (some d) W σ:=List.mem_append_left _ h
theorem Iy {d:Option Nat} {W:List Nat} {σ:St} {b f:Nat} {x:Bx} (hb:b∈W) (hx:σ.bx.getD b none=some x) (h:f∈x.refs):f∈fpF d W σ :=
 List.mem_append_right _ (List.mem_flatMap.2 ⟨b,hb,by rw[hx];exact h⟩)
theorem jZ (l:List Nat) (k:List Nat->Prop):kh l k=k l:=by
 induction l generalizing k with
 |nil=>rfl
 |cons x r ih=>cases x<;>simp only[kh,ih]
theorem Yy {ops:Array Oper} {K:St->Prop}:∀(l:List Nat) (past:List Fp) (σ:St),Td P S n ops l past σ K ->
  ∃(t:List Stp) (σk:St),t.map (·.p.i)=l/\TrP P S n ops σ t σk/\K σk/\(∀s∈t,WF ops σ.sl.length s)/\(∀q∈past,∀s∈t,q.fits n ops s.p=true)/\t.Pairwise (fun a b=>a.p.fits n ops b.p=true) /\
   ∀s∈t,∀d∈s.p.F,d∈ud S.frs ops:=by
 intro l;induction l with
 |nil=>intro past σ h;exact⟨[],σ,rfl,rfl,h,by simp,by simp,.nil,by simp⟩
 |cons i r ih =>
  intro past σ h;simp only[Td,jZ] at h;split at h
  ·exact h.elim
  rename_i o ho;split at h
  ·exact h.elim
  ·rename_i R F hf;split at h
   ·rename_i haft;obtain ⟨v,U,h1,h2,h3⟩:=MG hf h;split at h1
    ·rename_i hpast;generalize hp:(⟨i,o,R,fpW n S.frs o σ (σ.zk o.dst v U),F,fpF o.dst (fpW n S.frs o σ (σ.zk o.dst v U)) (σ.zk o.dst v U)⟩:Fp)=p at h1 hpast;obtain ⟨t,σk,t1,t2,t3,t4,t5,t6,t7⟩:=ih (p::past) _ h1;let s:Stp:=⟨p,v,U⟩
     have hl:(σ.zk o.dst v U).sl.length=σ.sl.length:=by
      have:=(WE σ s).1;simp only[St.stp,s,<- hp] at this;exact this
     refine⟨s::t,σk,?_,⟨?_,?_⟩,t3,?_,?_,?_,?_⟩
     ·rw[List.map_cons,t1];simp[s,<- hp]
     ·intro τ ha hF K' hk;simp only[s,<- hp] at ha hF hk ⊢;exact h3 τ ha hF K' hk
     ·simp only[St.stp,s,<- hp];exact t2
     ·intro q hq;rcases List.mem_cons.1 hq with rfl | hq
      ·refine⟨fun e he=>?_,fun e he x hx f hfm=>?_,fun d hd hdl f hfm=>?_,fun e he=>?_,?_⟩
       ·simp only[s,<- hp];exact(h2 e he).1
       ·simp only[s,<- hp];exact Iy (h2 e he).1 ((h2 e he).2 x hx) hfm
       ·simp only[s,<- hp] at hd hfm ⊢;rw[hd];refine KD ?_;simp only[St.zk,St.put];rw[qm,if_pos ⟨rfl,hdl⟩];exact hfm
       ·simp only[s,<- hp] at he ⊢;have:=List.all_eq_true.1 haft e (by simpa using he);simpa using this
       ·simp only[s,<- hp];exact ho
      ·rw[<- hl];exact t4 q hq
     ·intro q hq s' hs';rcases List.mem_cons.1 hs' with rfl | hs'
      ·exact List.all_eq_true.1 hpast q hq
      ·exact t5 q (List.mem_cons_of_mem _ hq) s' hs'
     ·exact .cons (fun s' hs'=>t5 p (by simp) s' hs') t6
     ·intro q hq d hdF;rcases List.mem_cons.1 hq with rfl | hq
      ·simp only[s,<- hp] at hdF;have hal:(match o.op with
         |.alloc _=>o.dst
         |.call c=>match c.callee with
          |.builtin .append=>o.dst
          |_=>if MN S.frs c then o.dst else none
         |_=>none)=some d:=by
        cases hop:o.op with
        |alloc t =>
         simp only[fpR,hop] at hf;split at hf
         ·rename_i d' hd';simp only[Option.some.injEq,Prod.mk.injEq] at hf;rw[<- hf.2] at hdF;simp only[List.mem_singleton] at hdF;rw[hd',hdF]
         ·cases hf
        |call c =>
         simp only[fpR,hop] at hf;split at hf
         ·rename_i hisf;unfold frR at hf;split at hf
          ·cases hf
          split at hf
          ·simp only[Option.some.injEq,Prod.mk.injEq] at hf;rw[<- hf.2] at hdF;cases hdF
          split at hf
          ·rename_i d' hd';simp only[Option.some.injEq,Prod.mk.injEq] at hf;rw[<- hf.2] at hdF;simp only[List.mem_singleton] at hdF;simp only[hisf,if_true,hd',hdF];split<;>rfl
          ·cases hf
         rename_i hisf;split at hf
         ·cases hf
         split at hf
         ·rename_i hcal;unfold J4 at hf;split at hf
          ·rename_i d' _ hd';simp only[Option.some.injEq,Prod.mk.injEq] at hf;rw[<- hf.2] at hdF;simp only[List.mem_singleton] at hdF;simp only[hcal,hdF];assumption
          ·cases hf
         ·simp only[Option.some.injEq,Prod.mk.injEq] at hf;rw[<- hf.2] at hdF;cases hdF
         ·split at hf
          ·split at hf
           ·simp only[Option.some.injEq,Prod.mk.injEq] at hf;rw[<- hf.2] at hdF;cases hdF
           ·split at hf
            ·simp only[Option.some.injEq,Prod.mk.injEq] at hf;rw[<- hf.2] at hdF;cases hdF
            ·split at hf
             ·simp only[Option.some.injEq,Prod.mk.injEq] at hf;rw[<- hf.2] at hdF;cases hdF
             ·cases hf
          ·simp only[Option.some.injEq,Prod.mk.injEq] at hf;rw[<- hf.2] at hdF;cases hdF
        |binOp =>
         exfalso;simp only[fpR,hop] at hf;split at hf
         ·cases hf
         ·simp only[Option.some.injEq,Prod.mk.injEq] at hf;rw[<- hf.2] at hdF;cases hdF
        |slice =>
         exfalso;simp only[fpR,hop] at hf;split at hf
         ·split at hf
          ·simp only[Option.some.injEq,Prod.mk.injEq] at hf;rw[<- hf.2] at hdF;cases hdF
          ·cases hf
         ·cases hf
        |buildSlice =>
         exfalso;simp only[fpR,hop] at hf;split at hf
         ·cases hf
         ·simp only[Option.some.injEq,Prod.mk.injEq] at hf;rw[<- hf.2] at hdF;cases hdF
        |_ =>
         exfalso;simp only[fpR,hop] at hf;first | cases hf | skip
         all_goals first | (simp only[Option.some.injEq,Prod.mk.injEq] at hf;rw[<- hf.2] at hdF;cases hdF) | cases hdF
       exact List.mem_filterMap.2 ⟨o,by simpa using Array.mem_of_getElem? ho,hal⟩
      ·exact t7 q hq d hdF
    ·exact h1.elim
   ·exact h.elim
end
section
variable {P:Program} {frs:Ways} {il:vZ} {ds:List Deferred} {n:Nat} {μ0:Lay} {ρ0:RO} {w0:World} {ρ:RO} {μ:Lay} {σ:St} {a:Act} {w:World}
variable {ro:Option Nat}
theorem Q3 (hil:kG P il) {ops:Array Oper} {i:Nat} {o:Oper} {g:Bool} {K:St->Prop} {Q:Exit->Act->World->Prop} {N:Act->World->Prop} (hi:ops[i]? = some o) (hs:Sat ds n μ0 ρ0 w0 ρ μ σ a w)
  (h:gop P (yj P frs il) n (qi ops.toList) g o σ K) (hN:∀a w,At ds n μ0 ρ0 w0 K a w->N a w):wpOpIn (Fr ro) 0 P ops Q i N a w:=by
 have run:aop P (yj P frs il) n o σ (fun σ=>split g o.dst σ K)->o.wpIn (Fr ro) 0 P a w N Q:=by
  intro h;refine Oper.wpIn_mono ?_ (YS hil hs h);rintro a w ⟨ρ,μ,σ,hs,h⟩;refine hN a w ?_;unfold split at h;split at h
  ·rename_i d _ _ _;split at h
   ·rename_i b hb;have hv:=hs.sl d;rw[hb] at hv;generalize hu:a.tmps.getD d Go.undef=u at hv;cases hv;cases hbb:b with
    |true=>exact⟨ρ,μ,_,hs.zx (by rw[hu,hbb];exact .tt _),h.1 hbb⟩
    |false=>exact⟨ρ,μ,_,hs.zx (by rw[hu,hbb];exact .ff _),h.2 hbb⟩
   ·exact⟨ρ,μ,σ,hs,h⟩
  ·exact⟨ρ,μ,σ,hs,h⟩
 have skip:K (σ.put o.dst (.tup []))->N (a.put o.dst Go.undef) w:=fun h=>hN _ _ ⟨ρ,μ,_,hs.put (.tup _ _ #[] rfl (fun j=>.undef ..)),h⟩
 unfold wpOpIn;simp only[hi];unfold gop at h;split at h
 ·rename_i hg;rw[if_pos (by simp[Region.wanted,hg])];exact run h
 ·rename_i j want hg;split at h
  ·rename_i d hdj;obtain ⟨y1,y2⟩:=YM hdj hs;have hw:∀b,yielded ops a.tmps j=some b->Region.wanted o (yielded ops a.tmps)=(b == want):=by
    intro b hb;simp only[Region.wanted,hg,hb];cases b<;>cases want<;>rfl
   split at h
   ·rename_i ht;obtain ⟨h1,h2⟩:=y1 true (by rw[ht];rfl);rw[hw _ h1];cases want with
    |true=>exact run h
    |false=>exact⟨fun _ _=>trivial,skip h⟩
   ·rename_i ht;obtain ⟨h1,h2⟩:=y1 false (by rw[ht];rfl);rw[hw _ h1];cases want with
    |true=>exact⟨fun _ _=>trivial,skip h⟩
    |false=>exact run h
   ·rename_i ht;have h1:=y2 ht;have:Region.wanted o (yielded ops a.tmps)=false:=by
     simp only[Region.wanted,hg,h1];cases want<;>rfl
    rw[this];exact⟨fun _ _=>trivial,skip h⟩
   ·exact h.elim
  ·exact h.elim
def kI (ops:Array Oper) (listed:Array Bool):Prop:=∀i o,ops[i]? = some o->listed.getD i true=true->∀e∈o.after.toList,Region.binds .any e=true->listed.getD e.on false=true
theorem PO {ops:Array Oper} {listed:Array Bool} (hcl:kI ops listed) {a:Nat}:∀(k b:Nat),Qi ops a k b=true->listed.getD b false=true->listed.getD a false=true:=by
 intro k;induction k with
 |zero=>intro b h _;cases h
 |succ k ih =>
  intro b h hb;simp only[Qi] at h;cases ho:ops[b]? with
  |none=>rw[ho] at h;cases h
  |some o =>
   rw[ho] at h;obtain ⟨e,he,h⟩:=List.any_eq_true.1 h;rw[Bool.and_eq_true] at h;have hb':listed.getD b true=true:=by
    simp only[Array.getD] at hb ⊢;split at hb
    ·rename_i hlt;rw[dif_pos hlt];exact hb
    ·cases hb
   have h1:=hcl b o ho hb' e he h.1;rcases Bool.or_eq_true_iff.1 h.2 with h2 | h2
   ·rw[beq_iff_eq] at h2;rw[<- h2];exact h1
   ·exact ih _ h2 h1
theorem XA (hil:kG P il) {ops:Array Oper} {Q:Exit->Act->World->Prop} {σk:St} {L:Nat} {fin:List Nat}
  (hfin:∀(listed:Array Bool) (ρ:RO) (μ:Lay) (a:Act) (w:World),listed.size=ops.size->kI ops listed->(∀i,i<ops.size->(listed.getD i true=false↔i∈fin))->Sat ds n μ0 ρ0 w0 ρ μ σk a w->wpAnyIn (Fr ro) 0 P .any ops Q fin.length listed a w)
  (hlast:∀(listed:Array Bool) (j:Nat),listed.size=ops.size->kI ops listed->j∈fin->j∈Region.ready .any ops listed->∀i,i<ops.size->listed.getD i true=false->i∈fin)
  (hwait:∀(i:Nat) (o:Oper),i∉fin->ops[i]? = some o->∀e∈o.after.toList,Region.binds .any e=true->e.on∉fin) :
  ∀(k:Nat) (t:List Stp) (listed:Array Bool) (ρ:RO) (μ:Lay) (σ:St) (a:Act) (w:World),t.length=k->σ.sl.length=L->Sat ds n μ0 ρ0 w0 ρ μ σ a w->TrP P (yj P frs il) n ops σ t σk ->
   (∀s∈t,WF ops L s)->t.Pairwise (fun a b=>a.p.fits n ops b.p=true)->(∀s∈t,∀d∈s.p.F,jq n d σ)->(t.map (·.p.i)).Nodup->listed.size=ops.size ->
   (∀i,i<ops.size->(listed.getD i true=false↔i∈t.map (·.p.i)\/i∈fin))->(∀i∈t.map (·.p.i),i∉fin)->kI ops listed->wpAnyIn (Fr ro) 0 P .any ops Q (k+fin.length) listed a w:=by
 intro k;induction k with
 |zero =>
  intro t listed ρ μ σ a w hk hL hs ht hwf hfit hfr hlt hls hl hdj hcl;have:t=[]:=List.length_eq_zero_iff.1 hk;subst this;have hσ:σ=σk:=ht;subst hσ;rw[Nat.zero_add];exact hfin listed ρ μ a w hls hcl (fun i hi=>by simpa using hl i hi) hs
 |succ k ih =>
  intro t listed ρ μ σ a w hk hL hs ht hwf hfit hfr hlt hls hl hdj hcl;have hsz:∀s∈t,s.p.i<ops.size:=fun s hm=>(Array.getElem?_eq_some_iff.1 (hwf s hm).op).1
  rw[Nat.succ_add];refine⟨fun hnil=>?_,fun j hj=>?_⟩
  ·exfalso;cases t with
   |nil=>simp at hk
   |cons s r =>
    have:s.p.i∈Region.ready .any ops listed:=by
     refine mem_ready.2 ⟨(hl _ (hsz s (by simp))).2 (.inl (by simp)),s.p.o,(hwf s (by simp)).op,fun e he hbd=>?_⟩;obtain ⟨h1,h2⟩:=(hwf s (by simp)).after e he;cases hg:listed.getD e.on false with
     |true=>rfl
     |false =>
      have h3:listed.getD e.on true=false:=by
       simp only[Array.getD,dif_pos (by omega:e.on<listed.size)] at hg ⊢;exact hg
      have h4:=((hl e.on h1).1 h3).resolve_right (hwait _ _ (hdj _ (by simp)) (hwf s (by simp)).op e (by simpa using he) hbd);rw[List.map_cons] at h4;rcases List.mem_cons.1 h4 with h5 | h5
      ·exact absurd h5 h2
      ·obtain ⟨q,hq,hqi⟩:=List.mem_map.1 h5;have hf:=(List.pairwise_cons.1 hfit).1 q hq;simp only[Fp.fits,Bool.and_eq_true] at hf;have:=List.all_eq_true.1 hf.1.1 e (by simpa using he);simp[hbd,hqi] at this
    rw[hnil] at this;cases this
  ·obtain ⟨h1,o,ho,hall⟩:=mem_ready.1 hj;have hjlt:=(Array.getElem?_eq_some_iff.1 ho).1;have hjt:j∈t.map (·.p.i):=by
    rcases (hl j hjlt).1 h1 with h | h
    ·exact h
    ·exfalso;cases t with
     |nil=>simp at hk
     |cons s r =>
      have h2:=(hl s.p.i (hsz s (by simp))).2 (.inl (by simp));exact hdj s.p.i (by simp) (hlast listed j hls hcl h hj s.p.i (hsz s (by simp)) h2)
   obtain ⟨s,hst,hsi⟩:=List.mem_map.1 hjt;obtain ⟨pre,post,rfl⟩:=List.append_of_mem hst;have hso:s.p.o=o:=by
    have:=(hwf s hst).op;rw[hsi,ho] at this;exact(Option.some.inj this).symm
   have hpw:=List.pairwise_append.1 hfit;have hind:∀q∈pre,WF ops L q/\Nf ops q s/\∀d∈q.p.F,n+d∉s.p.rf:=by
    intro q hq;have hf:=hpw.2.2 q hq s (by simp);simp only[Fp.fits,Bool.and_eq_true,Bool.or_eq_true] at hf;refine⟨hwf q (List.mem_append_left _ hq),?_⟩;rcases hf.2 with h2 | h2
    ·exfalso;obtain ⟨e,he,hb⟩:=List.any_eq_true.1 h2;simp only[Bool.and_eq_true] at hb;have h3:=hall e (by rw[<- hso];simpa using he) hb.1;have h3:listed.getD q.p.i false=true:=by
      rcases Bool.or_eq_true_iff.1 hb.2 with h | h
      ·rw[beq_iff_eq] at h;rw[h] at h3;exact h3
      ·exact PO hcl 2 e.on h h3
     have h4:=(hl q.p.i (hsz q (List.mem_append_left _ hq))).2 (.inl (List.mem_map.2 ⟨q,List.mem_append_left _ hq,rfl⟩));have h5:=hsz q (List.mem_append_left _ hq);simp only[Array.getD,dif_pos (by omega:q.p.i<listed.size)] at h3 h4;rw[h4] at h3;cases h3
    ·obtain ⟨⟨⟨⟨i1,i2⟩,i3⟩,i4⟩,i5⟩:=h2;refine⟨⟨i1,k9 i2,k9 i3,k9 i4⟩,fun d hd=>?_⟩;exact k9 i5 (n+d) (List.mem_map.2 ⟨d,hd,rfl⟩)
   have hpost:∀q∈post,∀d∈q.p.F,n+d∉s.p.rf:=by
    intro q hq d hd;have hf:=(List.pairwise_cons.1 hpw.2.1).1 q hq;simp only[Fp.fits,Bool.and_eq_true] at hf;exact k9 hf.1.2 (n+d) (List.mem_map.2 ⟨d,hd,rfl⟩)
   have hb:=TrP.zW (hwf s hst) pre σ (fun q hq=>⟨(hind q hq).1,(hind q hq).2.1⟩) ht;have hg:=hb.1 σ ⟨fun _ _=>rfl,fun _ _=>rfl,rfl,rfl⟩ (hfr s hst) (fun τ=>τ=σ.stp s) rfl;rw[hso] at hg;refine Q3 hil ho hs hg ?_;rintro a' w' ⟨ρ',μ',σ',hs',rfl⟩;have hsub:(pre++post).Sublist (pre++s::post):=List.Sublist.append_left (List.sublist_cons_self s post) pre;refine ih (pre++post) _ ρ' μ' _ a' w' ?_ ?_ hs' hb.2 (fun q hq=>hwf q (hsub.subset hq)) (hfit.sublist hsub) ?_ (hlt.sublist (hsub.map _)) (by simp[hls]) ?_ (fun i hi=>hdj i ((hsub.map (·.p.i)).subset hi)) ?_
   ·simp at hk ⊢;omega
   ·rw[(WE σ s).1,hL]
   ·intro q hq d hd;refine(hfr q (hsub.subset hq) d hd).stp (by rw[hL];exact hwf s hst) ?_;rcases List.mem_append.1 hq with hq | hq
    ·exact(hind q hq).2.2 d hd
    ·exact hpost q hq d hd
   ·intro i hi;have hne:∀q∈pre++post,q.p.i≠s.p.i:=by
     intro q hq he;rw[List.map_append,List.map_cons] at hlt;have h5:=List.pairwise_append.1 hlt;rcases List.mem_append.1 hq with hq | hq
     ·exact h5.2.2 q.p.i (List.mem_map.2 ⟨q,hq,rfl⟩) s.p.i (by simp) he
     ·exact(List.pairwise_cons.1 h5.2.1).1 q.p.i (List.mem_map.2 ⟨q,hq,rfl⟩) he.symm
    by_cases hij:i=j
    ·subst hij;have:(listed.setIfInBounds i true).getD i true=true:=by
      simp[Array.getD,hls,hi]
     rw[this];refine⟨fun h=>absurd h (by decide),fun h=>?_⟩;rcases h with h | h
     ·obtain ⟨q,hq,hqi⟩:=List.mem_map.1 h;exact absurd (hqi.trans hsi.symm) (hne q hq)
     ·exact absurd h (hdj _ hjt)
    ·rw[getD_set_ne true (Ne.symm hij),hl i hi];simp only[List.map_append,List.map_cons,List.mem_append,List.mem_cons];constructor
     ·rintro ((h | h | h) | h)
      ·exact .inl (.inl h)
      ·exact absurd (h.trans hsi) hij
      ·exact .inl (.inr h)
      ·exact .inr h
     ·rintro ((h | h) | h)
      ·exact .inl (.inl h)
      ·exact .inl (.inr (.inr h))
      ·exact .inr h
   ·intro i o' ho' hi e he hbd;have mono:∀x,listed.getD x false=true->(listed.setIfInBounds j true).getD x false=true:=fun x hx=>by
     by_cases hxj:j=x
     ·subst hxj;simp[Array.getD,hls,hjlt]
     ·rw[getD_set_ne false hxj];exact hx
    by_cases hij:i=j
    ·subst hij;rw[ho] at ho';cases ho';exact mono _ (hall e (by simpa using he) hbd)
    ·rw[getD_set_ne true (Ne.symm hij)] at hi;exact mono _ (hcl i o' ho' hi e he hbd)
theorem QH {ops:Array Oper} {listed:Array Bool} (hls:listed.size=ops.size) (hcl:kI ops listed) {l:Nat} {ol:Oper} (hol:ops[l]? = some ol) (hl:∀e∈ol.after.toList,Region.binds .any e=true->listed.getD e.on false=true) :
  ∀(r seen:List Nat),(∀y∈seen,y=l\/listed.getD y false=true)->XJ ops r seen=true->∀x∈r,listed.getD x false=true:=by
 intro r;induction r with
 |nil=>intro seen _ _ x hx;cases hx
 |cons z r ih =>
  intro seen hseen h x hx;simp only[XJ,Bool.and_eq_true] at h;have hz:listed.getD z false=true:=by
   obtain ⟨y,hy,hyz⟩:=List.any_eq_true.1 h.1;split at hyz
   ·rename_i o ho;obtain ⟨e,he,hb⟩:=List.any_eq_true.1 hyz;simp only[Bool.and_eq_true,beq_iff_eq] at hb;rw[<- hb.2];rcases hseen y hy with rfl | hyl
    ·rw[hol] at ho;cases ho;exact hl e he hb.1
    ·refine hcl y o ho ?_ e he hb.1;have hlt:y<listed.size:=by rw[hls];exact(Array.getElem?_eq_some_iff.1 ho).1
     simp only[Array.getD,dif_pos hlt] at hyl ⊢;exact hyl
   ·cases hyz
  rcases List.mem_cons.1 hx with rfl | hx
  ·exact hz
  ·exact ih (z::seen) (fun y hy=>by
    rcases List.mem_cons.1 hy with rfl | hy
    ·exact .inr hz
    ·exact hseen y hy) h.2 x hx
theorem Ya {ops:Array Oper}:∀(r seen:List Nat) (j:Nat),Wq ops r seen=true->j∈r->∃seen',(∀x∈seen,x∈seen')/\XJ ops seen' [j]=true:=by
 intro r;induction r with
 |nil=>intro seen j _ hj;cases hj
 |cons l r ih =>
  intro seen j h hj;simp only[Wq,Bool.and_eq_true] at h;rcases List.mem_cons.1 hj with rfl | hj
  ·exact⟨seen,fun _ h=>h,h.1.2⟩
  ·obtain ⟨s',h1,h2⟩:=ih (l::seen) j h.2 hj;exact⟨s',fun x hx=>h1 x (List.mem_cons_of_mem _ hx),h2⟩
theorem u7 {ops:Array Oper} {listed:Array Bool} {j:Nat} {seen:List Nat} (hls:listed.size=ops.size) (hcl:kI ops listed) (hrd:j∈Region.ready .any ops listed) (hc:XJ ops seen [j]=true):∀x∈seen,x<ops.size->listed.getD x true=true:=by
 intro x hx hlt;obtain ⟨g1,o,ho,g2⟩:=mem_ready.1 hrd;have:=QH hls hcl ho (fun e he=>g2 e (by simpa using he)) seen [j] (fun y hy=>.inl (by simpa using hy)) hc x hx;have hlt:x<listed.size:=by omega
 simp only[Array.getD,dif_pos hlt] at this ⊢;exact this
theorem kI.set {ops:Array Oper} {listed:Array Bool} {j:Nat} (hcl:kI ops listed) (hls:listed.size=ops.size) (hrd:j∈Region.ready .any ops listed):kI ops (listed.setIfInBounds j true):=by
 obtain ⟨g1,o,ho,g2⟩:=mem_ready.1 hrd;have hjlt:=(Array.getElem?_eq_some_iff.1 ho).1;have mono:∀x,listed.getD x false=true->(listed.setIfInBounds j true).getD x false=true:=fun x hx=>by
  by_cases hxj:j=x
  ·subst hxj;simp[Array.getD,hls,hjlt]
  ·rw[getD_set_ne false hxj];exact hx
 intro i o' ho' hi e he hbd;by_cases hij:i=j
 ·subst hij;rw[ho] at ho';cases ho';exact mono _ (g2 e (by simpa using he) hbd)
 ·rw[getD_set_ne true (Ne.symm hij)] at hi;exact mono _ (hcl i o' ho' hi e he hbd)
theorem Jy (hil:kG P il) {ops:Array Oper} {K:St->Prop} {Q:Exit->Act->World->Prop} (hQ:∀a w,At ds n μ0 ρ0 w0 K a w->Q .normal a w) :
  ∀(fin seen:List Nat) (listed:Array Bool) (ρ:RO) (μ:Lay) (σ:St) (a:Act) (w:World),Wq ops fin seen=true->fin.Nodup->listed.size=ops.size->(∀i,i<ops.size->(listed.getD i true=false↔i∈fin))->(∀x∈seen,x∉fin)->kI ops listed ->
   Sat ds n μ0 ρ0 w0 ρ μ σ a w->O3 P (yj P frs il) n ops fin K σ->wpAnyIn (Fr ro) 0 P .any ops Q fin.length listed a w:=by
 intro fin;induction fin with
 |nil =>
  intro seen listed ρ μ σ a w _ _ hls hl _ _ hs h;refine⟨?_,hQ a w ⟨ρ,μ,σ,hs,h⟩⟩;rw[List.eq_nil_iff_forall_not_mem];intro j hj;obtain ⟨h1,o,ho,_⟩:=mem_ready.1 hj;have:=(hl j (Array.getElem?_eq_some_iff.1 ho).1).1 h1;cases this
 |cons l r ih =>
  intro seen listed ρ μ σ a w hok hnd hls hl hseen hcl hs h;have hok':=hok;simp only[Wq,Bool.and_eq_true] at hok;obtain ⟨⟨f1,f2⟩,f3⟩:=hok;unfold O3 at h;split at h
  case h_2=>exact h.elim
  rename_i o ho;rw[ho] at f1;have hlt:=(Array.getElem?_eq_some_iff.1 ho).1;have hrl:l∈Region.ready .any ops listed:=by
   refine mem_ready.2 ⟨(hl l hlt).2 (by simp),o,ho,fun e he hbd=>?_⟩;have he':=List.all_eq_true.1 f1 e (by simpa using he);simp only[Bool.and_eq_true,decide_eq_true_eq,List.contains_iff_mem] at he';cases hg:listed.getD e.on false with
   |true=>rfl
   |false =>
    have hlt':e.on<listed.size:=by omega
    have h3:listed.getD e.on true=false:=by
     simp only[Array.getD,dif_pos hlt'] at hg ⊢;exact hg
    exact absurd ((hl e.on he'.1).1 h3) (hseen _ he'.2)
  refine⟨fun hnil=>(by rw[hnil] at hrl;cases hrl),fun j hj=>?_⟩;obtain ⟨g1,oj,hoj,_⟩:=mem_ready.1 hj;have hjf:=(hl j (Array.getElem?_eq_some_iff.1 hoj).1).1 g1;have hjl:j=l:=by
   rcases List.mem_cons.1 hjf with h | h
   ·exact h
   ·exfalso;obtain ⟨s',h1,h2⟩:=Ya r (l::seen) j f3 h;have h3:=u7 hls hcl hj h2 l (h1 l (by simp)) hlt;have h4:=(hl l hlt).2 (by simp);rw[h3] at h4;cases h4
  subst hjl;refine Q3 hil ho hs h ?_;rintro a w ⟨ρ,μ,σ,hs,h⟩;refine ih (j::seen) _ ρ μ σ a w f3 (List.nodup_cons.1 hnd).2 (by simp[hls]) (fun i hi=>?_) (fun x hx=>?_) (hcl.set hls hj) hs h
  ·by_cases hij:i=j
   ·subst hij;simp[Array.getD,hls,hi,(List.nodup_cons.1 hnd).1]
   ·rw[getD_set_ne true (Ne.symm hij),hl i hi];simp[hij]
  ·rcases List.mem_cons.1 hx with rfl | hx
   ·exact(List.nodup_cons.1 hnd).1
   ·exact fun hm=>hseen x hx (List.mem_cons_of_mem _ hm)
theorem Ki {w:Ways} {ops:Array Oper}:∀(l:List Nat),(wK w ops l).1++(wK w ops l).2=l:=by
 intro l;induction l with
 |nil=>rfl
 |cons x r ih =>
  unfold wK;have key:∀b:Bool,(if b=true then (([]:List Nat),x::r) else (x::(wK w ops r).1,(wK w ops r).2)).1++(if b=true then (([]:List Nat),x::r) else (x::(wK w ops r).1,(wK w ops r).2)).2=x::r:=by
   intro b;cases b
   ·rw[if_neg (by decide)];show x::((wK w ops r).1++(wK w ops r).2)=_;rw[ih]
   ·rw[if_pos rfl];rfl
  exact key _
theorem Mt (hil:kG P il) {ops:Array Oper} {id:Nat} {ord:List Nat} {K:St->Prop} {Q:Exit->Act->World->Prop} (hm:P.follows .mixedOrders=true) (hQ:∀a w,At ds n μ0 ρ0 w0 K a w->Q .normal a w) (hs:Sat ds n μ0 ρ0 w0 ρ μ σ a w)
  (hfr:(ud frs ops).all (fun d=>vG n d σ)=true) (hord:T9 ops ord=true) (h:TG P (yj P frs il) n ops ord σ K):(Code.region id ops true).wpIn (Fr ro) 0 P Q a w:=by
 refine wpIn_region_any hm ?_;simp only[T9,Bool.and_eq_true,decide_eq_true_eq,beq_iff_eq] at hord;obtain ⟨⟨⟨o1,o2⟩,o3⟩,o4⟩:=hord;have hin:∀i,i<ops.size->i∈ord:=fun i hi=>by
  have:=List.all_eq_true.1 o1 i (List.mem_range.2 hi);simpa only[List.contains_eq_mem,decide_eq_true_eq] using this
 have hcl0:kI ops (Array.replicate ops.size false):=fun i o ho h=>by
  have hi:=(Array.getElem?_eq_some_iff.1 ho).1;simp[Array.getD,hi] at h
 have hread:∀ {listed:Array Bool},listed.size=ops.size->(∀i,i<ops.size->(listed.getD i true=false↔i∈([]:List Nat)))->Region.ready .any ops listed=[]:=by
  intro listed hls hl;rw[List.eq_nil_iff_forall_not_mem];intro j hj;obtain ⟨h1,o,ho,_⟩:=mem_ready.1 hj;have:=(hl j (Array.getElem?_eq_some_iff.1 ho).1).1 h1;cases this
 have plain:Td P (yj P frs il) n ops ord [] σ K->wpAnyIn (Fr ro) 0 P .any ops Q ops.size (Array.replicate ops.size false) a w.drew:=fun h=>by
  obtain ⟨t,σk,h1,h2,h3,h4,h5,h6,h7⟩:=Yy ord [] σ h;have hsz:t.length=ops.size:=by
   have:=congrArg List.length h1;simp only[List.length_map] at this;omega
  refine XA hil (σk:=σk) (L:=σ.sl.length) (fin:=[]) ?_ (fun _ _ _ _ hj=>by cases hj) (fun _ _ _ _ _ _ _=>by simp) ops.size t _ ρ μ σ a _ hsz rfl (hs.drawn _) h2 h4 h6 (fun s hs d hd=>?_) ?_ (by simp) ?_ (by simp) hcl0
  ·intro listed ρ μ a w hls _ hl hs;exact⟨hread hls hl,hQ a w ⟨ρ,μ,σk,hs,h3⟩⟩
  ·exact XP (List.all_eq_true.1 hfr d (h7 s hs d hd))
  ·rw[h1];exact o2
  ·intro i hi;rw[h1];simp[Array.getD,hi,hin i hi]
 unfold TG at h;simp only[jZ] at h;split at h
 ·exact plain h
 split at h
 case isFalse=>exact h.elim
 rename_i hf;have hsplit:=Ki (w:=(yj P frs il).frs) (ops:=ops) ord;generalize (wK (yj P frs il).frs ops ord).1=pre at h hf hsplit;generalize (wK (yj P frs il).frs ops ord).2=fin at h hf hsplit;simp only[WC,Bool.and_eq_true] at hf;obtain ⟨f2,f3⟩:=hf;obtain ⟨t,σk,h1,h2,h3,h4,h5,h6,h7⟩:=Yy pre [] σ h;have hnd:(pre++fin).Nodup:=by rw[hsplit];exact o2
 have hsz:t.length+fin.length=ops.size:=by
  have e1:=congrArg List.length h1;have e2:=congrArg List.length hsplit;simp only[List.length_map,List.length_append] at e1 e2;omega
 have hmem:∀i,i<ops.size->i∈pre\/i∈fin:=fun i hi=>by
  have:=hin i hi;rw[<- hsplit] at this;exact List.mem_append.1 this
 have hdis:∀i,i∈pre->i∉fin:=fun i h1 h2=>(List.nodup_append.1 hnd).2.2 i h1 i h2 rfl
 suffices h:wpAnyIn (Fr ro) 0 P .any ops Q (t.length+fin.length) (Array.replicate ops.size false) a w.drew by rw[hsz] at h;exact h
 refine XA hil (σk:=σk) (L:=σ.sl.length) (fin:=fin) ?_ ?_ ?_ t.length t _ ρ μ σ a _ rfl rfl (hs.drawn _) h2 h4 h6 (fun s hs d hd=>?_) ?_ (by simp) ?_ ?_ hcl0
 ·intro listed ρ μ a w hls hcl hl hs;exact Jy hil hQ fin pre.reverse listed ρ μ σk a w f2 (List.nodup_append.1 hnd).2.1 hls hl (fun x hx=>hdis x (List.mem_reverse.1 hx)) hcl hs h3
 ·intro listed j hls hcl hj hrd i hi hil';rcases hmem i hi with h | h
  ·exfalso;obtain ⟨s',g1,g2⟩:=Ya fin pre.reverse j f2 hj;have:=u7 hls hcl hrd g2 i (g1 i (List.mem_reverse.2 h)) hi;rw[hil'] at this;cases this
  ·exact h
 ·intro i o hi ho e he hbd hmem';have h':=(hmem i (Array.getElem?_eq_some_iff.1 ho).1).resolve_right hi;have:=List.all_eq_true.1 f3 i h';rw[ho] at this;have:=List.all_eq_true.1 this e he;simp[hbd,hmem'] at this
 ·exact XP (List.all_eq_true.1 hfr d (h7 s hs d hd))
 ·rw[h1];exact(List.nodup_append.1 hnd).1
 ·intro i hi;rw[h1];simp[Array.getD,hi,hmem i hi]
 ·rw[h1];exact hdis
end
end Go.Proofs.YtkojpnkknehhmaaGreatDoor

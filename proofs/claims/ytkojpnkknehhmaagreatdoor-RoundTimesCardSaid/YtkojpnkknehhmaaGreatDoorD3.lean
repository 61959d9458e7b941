/- Operations in a region whose order is drawn: each looks at its operands and at some boxes, and changes its slot and some boxes, alone. What an operation looks at, and what it changes. Each operation alone: what it looks at, and what it changes. -/
import Derived.Test.YtkojpnkknehhmaaGreatDoorR15
namespace Go.Proofs.YtkojpnkknehhmaaGreatDoor
open Go.RowKit
mutual
theorem UT {g g':Nat->Option (List AV)} (v:AV) (h:∀t∈v.zf,g t.1=g' t.1):v.snap g=v.snap g':=by
 cases v with
 |aslc b off len esz ag=>simp only[AV.snap];rw[h (b,off+len*esz,esz,ag) (by simp[AV.zf])]
 |fn f a b=>simp only[AV.snap];rw[jD a fun t ht=>h t (by simp[AV.zf,ht]),jD b fun t ht=>h t (by simp[AV.zf,ht])]
 |iface t v=>simp only[AV.snap];rw[UT v fun t ht=>h t (by simpa[AV.zf] using ht)]
 |eptr cs off=>simp only[AV.snap];rw[jD cs fun t ht=>h t (by simpa[AV.zf] using ht)]
 |agg cs=>simp only[AV.snap];rw[jD cs fun t ht=>h t (by simpa[AV.zf] using ht)]
 |tup cs=>simp only[AV.snap];rw[jD cs fun t ht=>h t (by simpa[AV.zf] using ht)]
 |_=>rfl
theorem jD {g g':Nat->Option (List AV)} (l:List AV) (h:∀t∈AV.za l,g t.1=g' t.1):AV.ze g l=AV.ze g' l:=by
 cases l with
 |nil=>rfl
 |cons x r=>simp only[AV.ze];rw[UT x fun t ht=>h t (by simp[AV.za,ht]),jD r fun t ht=>h t (by simp[AV.za,ht])]
end
theorem U4 {g:Nat->Option (List AV)} {K:Prop}:∀ {l:List (Nat × Nat × Nat × Bool)},q8 g l K->K/\∀(g':Nat->Option (List AV)) (K':Prop),(∀t∈l,g t.1=g' t.1)->K'->q8 g' l K':=by
 intro l;induction l with
 |nil=>intro h;exact⟨h,fun _ _ _ h=>h⟩
 |cons t r ih =>
  obtain ⟨b,m,esz,ag⟩:=t;intro h;simp only[q8] at h;have key:∀(g':Nat->Option (List AV)) (K':Prop),(∀t∈(b,m,esz,ag)::r,g t.1=g' t.1)->g b=g' b:=fun g' K' he=>he (b,m,esz,ag) (by simp)
  split at h
  ·rename_i cs hb;split at h
   ·rename_i hag;obtain ⟨h1,h2⟩:=ih h.2;refine⟨h1,fun g' K' he hk=>?_⟩;simp only[q8,<- key g' K' he,hb,hag,if_true];exact⟨h.1,h2 g' K' (fun t ht=>he t (List.mem_cons_of_mem _ ht)) hk⟩
   ·rename_i hag;split at h
    ·rename_i hesz;obtain ⟨h1,h2⟩:=ih h.2;refine⟨h1,fun g' K' he hk=>?_⟩;simp only[q8,<- key g' K' he,hb];rw[if_neg hag,if_pos hesz];exact⟨h.1,h2 g' K' (fun t ht=>he t (List.mem_cons_of_mem _ ht)) hk⟩
    ·exact h.elim
  ·rename_i hb;obtain ⟨h1,h2⟩:=ih h;refine⟨h1,fun g' K' he hk=>?_⟩;simp only[q8,<- key g' K' he,hb];exact h2 g' K' (fun t ht=>he t (List.mem_cons_of_mem _ ht)) hk
def Ang {α:Type} (F:(α->Prop)->Prop):Prop:=∀K,F K->∃v,K v/\∀K',K' v->F K'
theorem MD {β:Type} {g:β->(List AV->Prop)->Prop} (h:∀t,Ang (g t)) (app:List AV->List AV->List AV):∀(l:List β) (acc:List AV),
  Ang (fun K:List AV->Prop=>l.foldr (fun t (k:List AV->Prop) acc=>g t fun cs=>k (app acc cs)) K acc):=by
 intro l;induction l with
 |nil=>intro acc K h;exact⟨acc,h,fun _ h=>h⟩
 |cons t r ih =>
  intro acc K hk;obtain ⟨cs,h1,h2⟩:=h t _ hk;obtain ⟨v,h3,h4⟩:=ih (app acc cs) K h1;exact⟨v,h3,fun K' hk'=>h2 _ (h4 K' hk')⟩
theorem uo {P:Program}:∀(d:Nat) (t:TypeId),Ang (ju P d t):=by
 intro d;induction d with
 |zero=>intro t K h;exact h.elim
 |succ d ih =>
  intro t K h;simp only[ju] at h ⊢;split at h
  ·obtain ⟨b,h⟩:=h;exact⟨_,h,fun K' h=>⟨b,h⟩⟩
  ·obtain ⟨b,h⟩:=h;exact⟨_,h,fun K' h=>⟨b,h⟩⟩
  ·obtain ⟨b,h⟩:=h;exact⟨_,h,fun K' h=>⟨b,h⟩⟩
  ·obtain ⟨b,h⟩:=h;exact⟨_,h,fun K' h=>⟨b,h⟩⟩
  ·exact MD (g:=fun (f:Field)=>ju P d f.type) (fun f=>ih f.type) (fun a b=>a++b) _ _ K h
  ·rename_i n e _;have key:∀(n:Nat) (acc:List AV),Ang (fun K=>Nat.rec (motive:=fun _=>List AV->Prop) K (fun _ k acc=>ju P d e fun cs=>k (acc++cs)) n acc):=by
    intro n;induction n with
    |zero=>intro acc K h;exact⟨acc,h,fun _ h=>h⟩
    |succ n ih2 =>
     intro acc K h;obtain ⟨cs,h1,h2⟩:=ih e _ h;obtain ⟨v,h3,h4⟩:=ih2 _ K h1;exact⟨v,h3,fun K' hk'=>h2 _ (h4 K' hk')⟩
   exact key n [] K h
  ·obtain ⟨b,h⟩:=h;exact⟨_,h,fun K' h=>⟨b,h⟩⟩
theorem uU {P:Program} (t:TypeId):Ang (exT P t):=by
 intro K h;obtain ⟨cs,h1,h2⟩:=uo _ _ _ h;exact⟨_,h1,fun K' h=>h2 _ h⟩
theorem Mx {P:Program} (ts:List TypeId):Ang (Kv P ts):=by
 intro K h;match ts with
 |[]=>exact⟨_,h,fun _ h=>h⟩
 |[t]=>exact uU t K h
 |t::u::r =>
  have key:∀(l:List TypeId) (acc:List AV),Ang (fun K:List AV->Prop=>l.foldr (fun t (k:List AV->Prop) acc=>exT P t fun v=>k (acc++[v])) K acc):=by
   intro l;induction l with
   |nil=>intro acc K h;exact⟨acc,h,fun _ h=>h⟩
   |cons t r ih =>
    intro acc K hk;have hk:exT P t (fun v=>r.foldr (fun t (k:List AV->Prop) acc=>exT P t fun v=>k (acc++[v])) K (acc++[v])):=hk;obtain ⟨v,h1,h2⟩:=uU t _ hk;obtain ⟨u,h3,h4⟩:=ih _ K h1;exact⟨u,h3,fun K' hk'=>h2 (fun v=>r.foldr (fun t (k:List AV->Prop) acc=>exT P t fun v=>k (acc++[v])) K' (acc++[v])) (h4 K' hk')⟩
  obtain ⟨vs,h1,h2⟩:=key (t::u::r) [] (fun vs=>K (.tup vs)) h;exact⟨_,h1,fun K' h=>h2 (fun vs=>K' (.tup vs)) h⟩
theorem Ang.map {α β:Type} {F:(α->Prop)->Prop} (h:Ang F) (g:α->β):Ang fun K=>F fun v=>K (g v):=by
 intro K hk;obtain ⟨v,h1,h2⟩:=h _ hk;exact⟨g v,h1,fun K' hk=>h2 _ hk⟩
mutual
theorem SN (x:AV):Ang (exV x):=by
 cases x with
 |int k n=>intro K h;obtain ⟨n,h⟩:=h;exact⟨_,h,fun K' h=>⟨n,h⟩⟩
 |bool b=>intro K h;obtain ⟨n,h⟩:=h;exact⟨_,h,fun K' h=>⟨n,h⟩⟩
 |str s=>intro K h;obtain ⟨n,h⟩:=h;exact⟨_,h,fun K' h=>⟨n,h⟩⟩
 |slc m es=>intro K h;obtain ⟨n,h⟩:=h;exact⟨_,h,fun K' h=>⟨n,h⟩⟩
 |undef=>intro K h;obtain ⟨n,h⟩:=h;exact⟨_,h,fun K' h=>⟨n,h⟩⟩
 |iface t v=>exact(SN v).map _
 |agg cs=>exact(uT cs).map _
 |tup cs=>exact(uT cs).map _
 |fn f a c =>
  intro K h;obtain ⟨a',h1,h2⟩:=uT a _ h;obtain ⟨c',h3,h4⟩:=uT c _ h1;exact⟨_,h3,fun K' hk=>h2 (fun a=>exL c fun c=>K' (.fn f a c)) (h4 (fun c=>K' (.fn f a' c)) hk)⟩
 |eptr cs off=>exact(uT cs).map _
 |_=>intro K h;exact⟨_,h,fun K' h=>h⟩
theorem uT (l:List AV):Ang (exL l):=by
 cases l with
 |nil=>intro K h;exact⟨_,h,fun K' h=>h⟩
 |cons x r =>
  intro K h;obtain ⟨v,h1,h2⟩:=SN x _ h;obtain ⟨l,h3,h4⟩:=uT r _ h1;exact⟨_,h3,fun K' hk=>h2 _ (h4 _ hk)⟩
end
theorem NN (x:AV):Ang (exX x):=by
 intro K h;have key:x=.tup [.nilmap,.nilp]\/(∃v,(∀K,exX x K=K v))\/∀K,exX x K=exV x K:=by
  by_cases h0:x=AV.tup [.nilmap,.nilp]
  ·exact .inl h0
  by_cases hx:∃v,x=AV.tup [.nilmap,v]
  ·obtain ⟨v,rfl⟩:=hx;refine .inr (.inl ⟨v,fun K=>?_⟩);unfold exX;split
   ·rename_i h1;exact absurd h1 h0
   ·rename_i h1;cases h1;rfl
   ·rename_i h1 h2;exact absurd rfl (h2 v)
  ·refine .inr (.inr fun K=>?_);unfold exX;split
   ·exact absurd rfl h0
   ·exact absurd ⟨_,rfl⟩ hx
   ·rfl
 rcases key with rfl | ⟨v,hk⟩ | hk
 ·obtain ⟨es,h⟩:=h;exact⟨_,h,fun K' hk=>⟨es,hk⟩⟩
 ·rw[hk] at h;exact⟨v,h,fun K' hv=>by rw[hk];exact hv⟩
 ·rw[hk] at h;obtain ⟨v,h1,h2⟩:=SN x _ h;exact⟨v,h1,fun K' hv=>by rw[hk];exact h2 _ hv⟩
theorem NM:∀l:List AV,Ang (exO l):=by
 intro l;induction l with
 |nil=>intro K h;exact h.elim
 |cons x r ih =>
  cases r with
  |nil=>exact NN x
  |cons y s =>
   intro K h;rcases h with h | h
   ·obtain ⟨v,h1,h2⟩:=NN x K h;exact⟨v,h1,fun K' hk=>.inl (h2 K' hk)⟩
   ·obtain ⟨v,h1,h2⟩:=ih K h;exact⟨v,h1,fun K' hk=>.inr (h2 K' hk)⟩
theorem It {P:Program} {w:Ways} {t:TypeId}:Ang (exE P w t):=by
 unfold exE;cases w.alts.lookup (1000000+t) with
 |none=>exact uU t
 |some l=>exact NM l
theorem uS {P:Program} {w:Ways} {f:FuncId} {ts:List TypeId}:Ang (Wf P w f ts):=by
 unfold Wf;cases w.alts.lookup f with
 |none=>exact Mx ts
 |some l=>exact NM l
theorem Ju {j:Int} {F F':Nat->Prop}:∀ {n:Nat},Qa j F n->(∀m,F m->F' m)->Qa j F' n:=by
 intro n;induction n with
 |zero=>intro h _;trivial
 |succ n ih=>intro h hF;exact⟨fun e=>hF _ (h.1 e),ih h.2 hF⟩
theorem Uq {n:Nat} {i:AV}:Ang (SS n i):=by
 intro F h;unfold SS at h;split at h
 ·rename_i k j hi;split at h
  ·rename_i hj;exact⟨_,h,fun K' hk=>by unfold SS;rw[hi];simp only[hj];exact hk⟩
  ·exact h.elim
 ·rename_i k j hi;obtain ⟨hj,hs⟩:=h;have key:∀(m:Nat) (F:Nat->Prop),Qa j F m->0<=j->j<m->F j.toNat:=by
   intro m;induction m with
   |zero=>intro F _ h0 h1;omega
   |succ m ih =>
    intro F h h0 h1;by_cases he:j=(m:Int)
    ·have:=h.1 he;rw[he];simpa using this
    ·exact ih F h.2 h0 (by omega)
  have key2:∀(F':Nat->Prop),F' j.toNat->∀m,Qa j F' m:=by
   intro F' hF' m;induction m with
   |zero=>trivial
   |succ m ih=>exact⟨fun he=>by rw[he] at hF';simpa using hF',ih⟩
  exact⟨_,key n F hs hj.1 hj.2,fun K' hk=>by unfold SS;rw[hi];exact⟨hj,key2 K' hk n⟩⟩
 ·exact h.elim
theorem Mv {P:Program} {w:Ways} {kn:Bool} {e:TypeId} {es:List AV} {j:Int}:Ang (Ub P w kn e es j):=by
 intro K h;unfold Ub at h;split at h
 ·rename_i hk;cases hg:es[j.toNat]? with
  |none=>rw[hg] at h;exact h.elim
  |some v =>
   rw[hg] at h;exact⟨v,h,fun K' hv=>by unfold Ub;rw[if_pos hk,hg];exact hv⟩
 ·rename_i hk;obtain ⟨v,h1,h2⟩:=It _ h;exact⟨v,h1,fun K' hv=>by unfold Ub;rw[if_neg hk];exact h2 _ hv⟩
theorem uA {P:Program} {w:Ways} {t:TypeId} {x i:AV}:Ang (qQ P w t x i):=by
 intro K h;unfold qQ at h;split at h
 ·rename_i ht;split at h
  ·exact h.elim
  ·rename_i hu;split at h
   ·obtain ⟨j,h1,h2⟩:=Uq _ h;refine⟨_,h1,fun K' hk=>?_⟩;unfold qQ;rw[ht];simp only;rw[if_neg hu];exact h2 (fun j=>K' _) hk
   ·obtain ⟨j,h1,h2⟩:=Uq _ h;refine⟨_,h1,fun K' hk=>?_⟩;unfold qQ;rw[ht];simp only;rw[if_neg hu];exact h2 (fun j=>K' _) hk
   ·exact h.elim
 ·rename_i ht;split at h
  ·exact h.elim
  ·rename_i hu;split at h
   ·rename_i hi;obtain ⟨v,h1,h2⟩:=Mv _ h;refine⟨_,h1.2,fun K' hk=>?_⟩;unfold qQ;rw[ht];simp only;rw[if_neg hu,hi];exact h2 _ ⟨h1.1,hk⟩
   ·rename_i hi;refine⟨_,h.2,fun K' hk=>?_⟩;unfold qQ;rw[ht];simp only;rw[if_neg hu,hi];exact⟨h.1,hk⟩
   ·exact h.elim
 ·exact h.elim
theorem Ur {P:Program} {t:TypeId} {x i:AV}:Ang (uz P t x i):=by
 intro K h;unfold uz at h;split at h
 ·rename_i ht;split at h
  ·obtain ⟨j,h1,h2⟩:=Uq _ h;split at h1
   ·rename_i v hv;refine⟨v,h1,fun K' hk=>?_⟩;unfold uz;rw[ht];refine h2 _ ?_;rw[hv];exact hk
   ·exact h1.elim
  ·exact h.elim
 ·rename_i ht;split at h
  ·rename_i hi;obtain ⟨c,h1,h2⟩:=h;refine⟨_,h2,fun K' hk=>?_⟩;unfold uz;rw[ht];simp only;rw[hi];exact⟨c,h1,hk⟩
  ·exact h.elim
 ·exact h.elim
theorem uj {op:BinOp} {x y:AV}:Ang (Ws op x y):=by
 intro K h;unfold Ws at h;split at h
 ·rename_i k a l k' b l' hx hy;cases op<;>simp only at h<;>(repeat' split at h)<;>first | exact h.elim | exact⟨_,h,fun K' hk=>by unfold Ws;rw[hx,hy];simp_all⟩ | exact⟨_,h.2,fun K' hk=>by unfold Ws;rw[hx,hy];simp_all⟩
 ·exact h.elim
def St.zk (σ:St) (d:Option Nat) (v:AV) (U:List (Nat × Option Bx)):St:={ sl:=(σ.put d v).sl,bx:=U.foldl (fun l e=>l.set e.1 e.2) σ.bx }
def jq (n d:Nat) (σ:St):Prop:=(∀t,t≠d->n+d∉(σ.sl.getD t .undef).refs)/\∀b x,b≠n+d->σ.bx.getD b none=some x->n+d∉x.refs
structure jg (ops:Array Oper) (o:Oper) (R:List Nat) (σ τ:St):Prop where
 sl:∀t∈o.looksAt ops,σ.sl.getD t .undef=τ.sl.getD t .undef
 bx:∀b∈R,σ.bx.getD b none=τ.bx.getD b none
 l1:σ.sl.length=τ.sl.length
 l2:σ.bx.length=τ.bx.length
theorem X4 {l:List AV} {b:Nat} (h:b∈AV.zd l):∃j,j<l.length/\b∈(l.getD j .undef).refs:=by
 induction l with
 |nil=>simp[AV.zd] at h
 |cons x r ih =>
  simp only[AV.zd,List.mem_append] at h;rcases h with h | h
  ·exact⟨0,by simp,h⟩
  ·obtain ⟨j,h1,h2⟩:=ih h;exact⟨j+1,by simpa using h1,by simpa using h2⟩
theorem TL {n d:Nat} {σ:St} (h:jq n d σ):vG n d σ=true:=by
 simp only[vG,vL,Bool.and_eq_true,Bool.not_eq_true',List.contains_eq_mem,decide_eq_false_iff_not];refine⟨fun hb=>?_,List.all_eq_true.2 fun y hy=>?_⟩
 ·obtain ⟨t,h1,h2⟩:=X4 hb;rw[qm] at h2;by_cases ht:t=d
  ·rw[List.length_set] at h1;rw[if_pos ⟨ht,by omega⟩] at h2;simp[AV.refs] at h2
  ·rw[if_neg (by omega)] at h2;exact h.1 t ht h2
 ·cases y with
  |none=>rfl
  |some x =>
   obtain ⟨b,hb⟩:=List.getElem?_of_mem hy;have hg:(σ.bx.set (n+d) none).getD b none=some x:=by simp[List.getD,hb]
   rw[qo] at hg;split at hg
   ·cases hg
   ·rename_i hnb;by_cases hbd:b=n+d
    ·have:¬ b<σ.bx.length:=fun hl=>hnb ⟨hbd,by omega⟩
     simp[List.getD,List.getElem?_eq_none (by omega:σ.bx.length<=b)] at hg
    ·have:=h.2 b x hbd hg;simpa using this
theorem XP {n d:Nat} {σ:St} (h:vG n d σ=true):jq n d σ:=by
 refine⟨fun t ht=>?_,fun b x hb hx=>?_⟩
 ·have:=T6 h t;rw[qm,if_neg (fun e=>ht e.1)] at this;exact this
 ·have h2:({ sl:=σ.sl.set d .undef,bx:=σ.bx.set (n+d) none }:St).bx.getD b none=some x:=by
   rw[qo,if_neg (fun e=>hb e.1),hx]
  exact T5 h h2
theorem YE {P:Program} {e e':Operand->AV} {op:Op} (h:∀x∈op.operands,e x=e' x):jC P e op=jC P e' op:=by
 have l (xs:Array Operand) (h:∀x∈xs,e x=e' x):xs.toList.map e=xs.toList.map e':=List.map_congr_left fun x hx=>h x (by simpa using hx)
 have prs (ps:Array (Nat × Operand)) (h:∀x∈(ps.map (·.2)),e x=e' x):(ps.toList.map fun p=>(p.1,e p.2))=(ps.toList.map fun p=>(p.1,e' p.2)) :=
  List.map_congr_left fun p hp=>by
   obtain ⟨i,x⟩:=p;simp only;rw[h x (Array.mem_map.2 ⟨(i,x),by simpa using hp,rfl⟩)]
 cases op<;>simp only[Op.operands] at h
 case build t ps=>simp only[jC];rw[prs ps fun x hx=>h x (by simpa using hx)]
 case makeFunc f first caps =>
  cases f with
  |func f=>simp only[jC];rw[l first fun x hx=>h x (by simp[hx]),l caps fun x hx=>h x (by simp[hx])]
  |_=>rfl
 case call c=>simp only[jC];rw[l c.args fun x hx=>h x (by simp[Call.operands,hx])]
 case unOp op t x=>cases op<;>simp_all [jC]
 case binOp op t x y yt=>cases op<;>simp_all [jC]
 case slice t x lo hi mx=>rfl
 case select=>rfl
 all_goals first | rfl | (simp_all [jC];done)
theorem Ph (kill:List Nat):∀(bx:List (Option Bx)) (i:Nat),((kill.map fun b=>(b,(none:Option Bx))).foldl (fun l e=>l.set e.1 e.2) bx)[i]? = if kill.contains i then (bx[i]?).map fun _=>none else bx[i]?:=by
 induction kill with
 |nil=>intro bx i;rfl
 |cons k r ih =>
  intro bx i;simp only[List.map_cons,List.foldl_cons];rw[ih];by_cases h:i=k
  ·subst h;by_cases hl:i<bx.length<;>simp[hl]
  ·rw[List.getElem?_set_ne (Ne.symm h)];simp[h]
theorem SR (O:List (List AV)) (kill:List Nat) (bx:List (Option Bx)):yC [] O kill bx=(kill.map fun b=>(b,(none:Option Bx))).foldl (fun l e=>l.set e.1 e.2) bx:=by
 apply List.ext_getElem?;intro i;rw[Ph];simp only[yC,xe,idx];cases bx[i]?<;>simp;split<;>rfl
section
variable {P:Program} {S:Specs} {n:Nat}
theorem XF {f:FuncId} {args:List AV} {d:Option Nat} {σ:St} {K:St->Prop} (he:AV.zd (AV.ze σ.zg args)=[]) :
  jG P S n f args d σ K=(match P.funcs[f]? with
   |some fn=>q8 σ.zg (AV.za args) (Wf P S.frs f fn.resultTypes.toList fun v=>S.spec f (AV.zb (AV.zh (fun _=>none) (AV.ze σ.zg args))) [] v [] /\
     (if v.plain then K (σ.zk d (v.zj fun _=>none) []) else if ((AV.za args).map (·.1)).all (n<=·) then K (σ.zk d (v.zj fun _=>none) (((AV.za args).map (·.1)).map fun b=>(b,none))) else False))
   |none=>False):=by
 have hp:∀(v:AV) (U:List (Nat × Option Bx)),σ.zk d v U=({ sl:=σ.sl,bx:=U.foldl (fun l e=>l.set e.1 e.2) σ.bx }:St).put d v:=by intro v U;cases d<;>rfl
 unfold jG;dsimp only;rw[he,show ∀g,wo g 30 [] []=[] from fun _=>rfl];cases hf:P.funcs[f]? with
 |none=>simp
 |some fn =>
  simp only[List.mapM_nil,Option.pure_def,List.flatMap_nil,AV.za,List.append_nil,List.any_nil,Bool.false_or,List.contains_nil,List.map_nil,wg,we,ite_self,SR,List.all_nil,Bool.and_true,hp,idx,
   List.foldl_nil,List.getElem?_nil]
  simp
theorem QD {f:FuncId} {args:List AV} {d:Option Nat} {σ:St} {K:St->Prop} (he:AV.zd (AV.ze σ.zg args)=[]) (h:jG P S n f args d σ K) :
  ∃v U,K (σ.zk d v U)/\(U=[]\/U=((AV.za args).map (·.1)).map fun b=>(b,none)) /\
   ∀τ:St,(∀b∈(AV.za args).map (·.1),σ.bx.getD b none=τ.bx.getD b none)->∀K',K' (τ.zk d v U)->jG P S n f args d τ K':=by
 rw[XF he] at h;cases hf:P.funcs[f]? with
 |none=>rw[hf] at h;exact h.elim
 |some fn =>
  rw[hf] at h;obtain ⟨h1,h2⟩:=U4 h;obtain ⟨v,⟨h3,h4⟩,h5⟩:=uS _ h1;have key:∀τ:St,(∀b∈(AV.za args).map (·.1),σ.bx.getD b none=τ.bx.getD b none)->(∀t∈AV.za args,σ.zg t.1=τ.zg t.1)/\AV.ze σ.zg args=AV.ze τ.zg args:=by
   intro τ ht;have h1:∀t∈AV.za args,σ.zg t.1=τ.zg t.1:=fun t hm=>by
    unfold St.zg;rw[ht t.1 (List.mem_map.2 ⟨t,hm,rfl⟩)]
   exact⟨h1,jD _ h1⟩
  split at h4
  ·rename_i hp;refine⟨_,_,h4,.inl rfl,fun τ ht K' hk=>?_⟩;obtain ⟨k1,k2⟩:=key τ ht;rw[XF (by rw[<- k2];exact he),hf];refine h2 _ _ k1 (h5 _ ⟨by rw[<- k2];exact h3,?_⟩);rw[if_pos hp];exact hk
  ·rename_i hp;split at h4
   ·rename_i ha;refine⟨_,_,h4,.inr rfl,fun τ ht K' hk=>?_⟩;obtain ⟨k1,k2⟩:=key τ ht;rw[XF (by rw[<- k2];exact he),hf];refine h2 _ _ k1 (h5 _ ⟨by rw[<- k2];exact h3,?_⟩);rw[if_neg hp,if_pos ha];exact hk
   ·exact h4.elim
end
mutual
theorem PG {g:Nat->Option (List AV)} (v:AV) (h:v.zf=[]):v.snap g=v:=by
 cases v with
 |aslc b off len esz ag=>simp[AV.zf] at h
 |fn f a b =>
  simp only[AV.zf,List.append_eq_nil_iff] at h;simp only[AV.snap];rw[yU a h.1,yU b h.2]
 |iface t v=>simp only[AV.snap];rw[PG v (by simpa[AV.zf] using h)]
 |agg cs=>simp only[AV.snap];rw[yU cs (by simpa[AV.zf] using h)]
 |tup cs=>simp only[AV.snap];rw[yU cs (by simpa[AV.zf] using h)]
 |eptr cs off=>simp only[AV.snap];rw[yU cs (by simpa[AV.zf] using h)]
 |_=>rfl
theorem yU {g:Nat->Option (List AV)} (l:List AV) (h:AV.za l=[]):AV.ze g l=l:=by
 cases l with
 |nil=>rfl
 |cons x r =>
  simp only[AV.za,List.append_eq_nil_iff] at h;simp only[AV.ze];rw[PG x h.1,yU r h.2]
end
theorem uY {b:Nat} {B:List Nat} (h:b∈B):∃i,idx b B=some i/\B[i]? = some b:=by
 cases hi:idx b B with
 |none=>exact absurd h (Q7 hi)
 |some i=>exact⟨i,rfl,xc hi⟩
mutual
theorem Pz {B:List Nat} (v:AV) (h:∀b∈v.refs,b∈B):(v.zj (idx · B)).zj (B[·]?)=v:=by
 cases v with
 |ref b off =>
  obtain ⟨i,h1,h2⟩:=uY (h b (by simp[AV.refs]));simp[AV.zj,h1,h2]
 |aslc b off len esz ag =>
  obtain ⟨i,h1,h2⟩:=uY (h b (by simp[AV.refs]));simp[AV.zj,h1,h2]
 |map b =>
  obtain ⟨i,h1,h2⟩:=uY (h b (by simp[AV.refs]));simp[AV.zj,h1,h2]
 |fn f a b=>simp only[AV.zj];rw[kQ a fun b hb=>h b (by simp[AV.refs,hb]),kQ b fun b hb=>h b (by simp[AV.refs,hb])]
 |iface t v=>simp only[AV.zj];rw[Pz v fun b hb=>h b (by simpa[AV.refs] using hb)]
 |eptr cs off=>simp only[AV.zj];rw[kQ cs fun b hb=>h b (by simpa[AV.refs] using hb)]
 |agg cs=>simp only[AV.zj];rw[kQ cs fun b hb=>h b (by simpa[AV.refs] using hb)]
 |tup cs=>simp only[AV.zj];rw[kQ cs fun b hb=>h b (by simpa[AV.refs] using hb)]
 |_=>rfl
theorem kQ {B:List Nat} (l:List AV) (h:∀b∈AV.zd l,b∈B):AV.zh (B[·]?) (AV.zh (idx · B) l)=l:=by
 cases l with
 |nil=>rfl
 |cons x r=>simp only[AV.zh];rw[Pz x fun b hb=>h b (by simp[AV.zd,hb]),kQ r fun b hb=>h b (by simp[AV.zd,hb])]
end
mutual
theorem PA {B:List Nat} (v:AV) (h:roV B v=true):v.zf=[]/\(∀b∈v.refs,b∈B)/\((v.zj (idx · B)).norm).zj (B[·]?)=v:=by
 cases v with
 |lit k n=>simp[roV] at h
 |tt=>simp[roV] at h
 |ff=>simp[roV] at h
 |aslc b off len esz ag=>simp[roV] at h
 |slc m es =>
  simp only[roV,beq_iff_eq] at h;subst h;exact⟨rfl,by simp[AV.refs],rfl⟩
 |ref b off =>
  simp only[roV,List.contains_iff_mem] at h;obtain ⟨i,h1,h2⟩:=uY h;exact⟨rfl,by simp[AV.refs,h],by simp[AV.zj,h1,AV.norm,h2]⟩
 |map b =>
  simp only[roV,List.contains_iff_mem] at h;obtain ⟨i,h1,h2⟩:=uY h;exact⟨rfl,by simp[AV.refs,h],by simp[AV.zj,h1,AV.norm,h2]⟩
 |fn f a b =>
  simp only[roV,Bool.and_eq_true] at h;obtain ⟨a1,a2,a3⟩:=jk a h.1;obtain ⟨b1,b2,b3⟩:=jk b h.2;refine⟨by simp[AV.zf,a1,b1],fun x hx=>?_,by simp only[AV.zj,AV.norm,a3,b3]⟩;simp only[AV.refs,List.mem_append] at hx;exact hx.elim (a2 x) (b2 x)
 |iface t v =>
  obtain ⟨a1,a2,a3⟩:=PA v (by simpa[roV] using h);exact⟨by simp[AV.zf,a1],fun x hx=>a2 x (by simpa[AV.refs] using hx),by simp only[AV.zj,AV.norm,a3]⟩
 |agg cs =>
  obtain ⟨a1,a2,a3⟩:=jk cs (by simpa[roV] using h);exact⟨by simp[AV.zf,a1],fun x hx=>a2 x (by simpa[AV.refs] using hx),by simp only[AV.zj,AV.norm,a3]⟩
 |tup cs =>
  obtain ⟨a1,a2,a3⟩:=jk cs (by simpa[roV] using h);exact⟨by simp[AV.zf,a1],fun x hx=>a2 x (by simpa[AV.refs] using hx),by simp only[AV.zj,AV.norm,a3]⟩
 |eptr cs off =>
  simp only[roV,Bool.and_eq_true,List.isEmpty_iff,List.all_eq_true,List.contains_iff_mem] at h;exact⟨by simp[AV.zf,h.1],fun x hx=>h.2 x (by simpa[AV.refs] using hx),by simp only[AV.zj,AV.norm];rw[kQ cs h.2]⟩
 |_=>exact⟨rfl,by simp[AV.refs],rfl⟩
theorem jk {B:List Nat} (l:List AV) (h:roL B l=true):AV.za l=[]/\(∀b∈AV.zd l,b∈B)/\AV.zh (B[·]?) (AV.zb (AV.zh (idx · B) l))=l:=by
 cases l with
 |nil=>exact⟨rfl,by simp[AV.zd],rfl⟩
 |cons x r =>
  simp only[roL,Bool.and_eq_true] at h;obtain ⟨a1,a2,a3⟩:=PA x h.1;obtain ⟨b1,b2,b3⟩:=jk r h.2;refine⟨by simp[AV.za,a1,b1],fun y hy=>?_,by simp only[AV.zh,AV.zb,a3,b3]⟩;simp only[AV.zd,List.mem_append] at hy;exact hy.elim (a2 y) (b2 y)
end
theorem Wn {g g':Nat->Option (List AV)} {B:List Nat}:∀(k:Nat) (todo seen:List Nat),wo g k todo seen=B->(∀b∈todo,b∈B)->(∀b∈B,g b=g' b)->(∀b∈B,∀cs,g b=some cs->∀r∈AV.zd cs,r∈B)->wo g' k todo seen=B:=by
 intro k;induction k with
 |zero=>intro todo seen h _ _ _;exact h
 |succ k ih =>
  intro todo seen h h1 h2 h3;cases todo with
  |nil=>exact h
  |cons b r =>
   unfold wo at h ⊢;have hr:∀c∈r,c∈B:=fun c hc=>h1 c (List.mem_cons_of_mem _ hc)
   split at h
   ·rename_i hc;rw[if_pos hc];exact ih _ _ h hr h2 h3
   ·rename_i hc;rw[if_neg hc,<- h2 b (h1 b (by simp))];cases hg:g b with
    |none=>rw[hg] at h;exact ih _ _ h hr h2 h3
    |some cs =>
     rw[hg] at h;refine ih _ _ h (fun c hc=>?_) h2 h3;rcases List.mem_append.1 hc with hc | hc
     ·exact h3 b (h1 b (by simp)) cs hg c hc
     ·exact hr c hc
section
variable {P:Program} {S:Specs} {n:Nat}
theorem vo {σ:St} {l:List AV} {B:List Nat} (h:X6 σ l B=true):AV.za l=[]/\(∀b∈AV.zd l,b∈B)/\B.Nodup/\∀b∈B,∃x,σ.bx.getD b none=some x/\x.arr=false/\roL B x.cs=true:=by
 simp only[X6,Bool.and_eq_true,List.isEmpty_iff,List.all_eq_true,decide_eq_true_eq,List.contains_iff_mem] at h;refine⟨h.1.1.1,h.1.1.2,h.1.2,fun b hb=>?_⟩;have:=h.2 b hb;split at this
 ·rename_i x hx;simp only[Bool.and_eq_true,Bool.not_eq_true'] at this;exact⟨x,hx,this.1,this.2⟩
 ·cases this
theorem Py {σ τ:St} {l:List AV} (h:X6 σ l (yv σ l)=true) (ht:∀b∈yv σ l,σ.bx.getD b none=τ.bx.getD b none):yv τ l=yv σ l:=by
 obtain ⟨h1,h2,_,h4⟩:=vo h;have hs:∀b∈yv σ l,(σ.box b).map (AV.ze σ.zg)=σ.box b:=by
  intro b hb;obtain ⟨x,hx,_,hr⟩:=h4 b hb;rw[yi hx,Option.map_some,yU _ (jk _ hr).1]
 have htb:∀b∈yv σ l,(τ.box b).map (AV.ze τ.zg)=σ.box b:=by
  intro b hb;obtain ⟨x,hx,_,hr⟩:=h4 b hb;rw[yi hx,yi (ht b hb▸hx),Option.map_some,yU _ (jk _ hr).1]
 have e:yv τ l=wo (fun b=>(τ.box b).map (AV.ze τ.zg)) 30 (AV.zd l) []:=by rw[yv,yU _ h1]
 rw[e];refine Wn (g:=fun b=>(σ.box b).map (AV.ze σ.zg)) 30 _ _ ?_ h2 (fun b hb=>by rw[hs b hb,htb b hb]) ?_
 ·rw[yv,yU _ h1]
 ·intro b hb cs hc r hr;rw[hs b hb] at hc;obtain ⟨x,hx,_,hro⟩:=h4 b hb;rw[yi hx] at hc;cases hc;exact(jk _ hro).2.1 r hr
theorem Lf {σ τ:St} {l:List AV} {B:List Nat} (h:X6 σ l B=true) (ht:∀b∈B,σ.bx.getD b none=τ.bx.getD b none):X6 τ l B=true:=by
 unfold X6 at h ⊢;rw[Bool.and_eq_true] at h ⊢;refine⟨h.1,List.all_eq_true.2 fun b hb=>?_⟩;have:=List.all_eq_true.1 h.2 b hb;rw[<- ht b hb];exact this
theorem Q1 {σ:St} {l:List AV} {B:List Nat} {bs:List Bx} (h:X6 σ l B=true) (hbs:B.mapM (fun b=>σ.bx.getD b none)=some bs) :
  yC B (bs.map fun x=>AV.zb (AV.zh (idx · B) x.cs)) [] σ.bx=σ.bx:=by
 obtain ⟨_,_,hnd,h4⟩:=vo h;obtain ⟨hl,hi⟩:=u6 hbs;apply List.ext_getElem?;intro b;simp only[yC,xe];cases hb:σ.bx[b]? with
 |none=>rfl
 |some x =>
  simp only[Option.map_some,List.contains_nil];cases hx:idx b B with
  |none=>rfl
  |some i =>
   have hib:=xc hx;obtain ⟨y,h5,h6⟩:=hi i b hib;have hxy:x=some y:=by
    simp only[List.getD,hb,Option.getD_some] at h6;exact h6
   subst hxy;have hbB:b∈B:=List.mem_of_getElem? hib;obtain ⟨z,h7,_,h8⟩:=h4 b hbB;rw[h6] at h7;cases h7;have:(bs.map fun x=>AV.zb (AV.zh (idx · B) x.cs)).getD i []=AV.zb (AV.zh (idx · B) y.cs):=by
    simp only[List.getD,List.getElem?_map,h5,Option.map_some,Option.getD_some]
   simp only[this,(jk _ h8).2.2];rfl
theorem TW {α β:Type} {g:α->Option β}:∀ {l:List α},(∀a∈l,∃b,g a=some b)->∃bs,l.mapM g=some bs:=by
 intro l;induction l with
 |nil=>intro _;exact⟨[],rfl⟩
 |cons x r ih =>
  intro h;obtain ⟨b,hb⟩:=h x (by simp);obtain ⟨bs,hbs⟩:=ih fun a ha=>h a (List.mem_cons_of_mem _ ha)
  exact⟨b::bs,by simp[List.mapM_cons,hb,hbs]⟩
theorem UE {α β:Type} {g g':α->Option β}:∀ {l:List α},(∀a∈l,g a=g' a)->l.mapM g=l.mapM g':=by
 intro l;induction l with
 |nil=>intro _;rfl
 |cons x r ih =>
  intro h;rw[List.mapM_cons,List.mapM_cons,h x (by simp),ih fun a ha=>h a (List.mem_cons_of_mem _ ha)]
theorem QE {f:FuncId} {l:List AV} {d:Option Nat} {σ:St} {K:St->Prop} {B:List Nat} {bs:List Bx} (hro:S.frs.ro.contains f=true) (hB:yv σ l=B) (hok:X6 σ l B=true) (hbs:B.mapM (fun b=>σ.bx.getD b none)=some bs) :
  jG P S n f l d σ K=(match P.funcs[f]? with
   |some fn=>Wf P S.frs f fn.resultTypes.toList fun v=>S.spec f (AV.zb (AV.zh (idx · B) l)) (bs.map fun x=>AV.zb (AV.zh (idx · B) x.cs)) v (bs.map fun x=>AV.zb (AV.zh (idx · B) x.cs))/\K (σ.put d (v.zj (B[·]?)))
   |none=>False):=by
 obtain ⟨h1,h2,hnd,h4⟩:=vo hok;obtain ⟨hl,hi⟩:=u6 hbs;have hmem:∀x∈bs,x.arr=false/\roL B x.cs=true:=by
  intro x hx;obtain ⟨i,hib,rfl⟩:=List.getElem_of_mem hx;have hiB:i<B.length:=by omega
  obtain ⟨y,h5,h6⟩:=hi i B[i] (by simp[hiB]);obtain ⟨z,h7,h8,h9⟩:=h4 B[i] (List.getElem_mem hiB);rw[h6] at h7;cases h7;rw[List.getElem?_eq_getElem hib] at h5;cases h5;exact⟨h8,h9⟩
 have hsn:∀x∈bs,AV.ze σ.zg x.cs=x.cs:=fun x hx=>yU _ (jk _ (hmem x hx).2).1
 have hmap:(bs.map fun x=>AV.zb (AV.zh (idx · B) (AV.ze σ.zg x.cs)))=bs.map fun x=>AV.zb (AV.zh (idx · B) x.cs):=List.map_congr_left fun x hx=>by rw[hsn x hx]
 have hasl:AV.za (bs.flatMap (·.cs))=[]:=by
  have key:∀(p q:List AV),AV.za (p++q)=AV.za p++AV.za q:=by
   intro p q;induction p with
   |nil=>rfl
   |cons c r ih=>simp[AV.za,ih]
  have:∀(l:List Bx),(∀x∈l,AV.za x.cs=[])->AV.za (l.flatMap (·.cs))=[]:=by
   intro l;induction l with
   |nil=>intro _;rfl
   |cons x r ih=>intro h;rw[List.flatMap_cons,key,h x (by simp),ih fun y hy=>h y (List.mem_cons_of_mem _ hy)];rfl
  exact this bs fun x hx=>(jk _ (hmem x hx).2).1
 unfold jG;dsimp only;have hB':wo (fun b=>(σ.box b).map (AV.ze σ.zg)) 30 (AV.zd (AV.ze σ.zg l)) []=B:=hB;rw[hB',hbs];cases hf:P.funcs[f]? with
 |none=>rfl
 |some fn =>
  have hany:(bs.any (·.arr))=false:=by
   rw[Bool.eq_false_iff];intro h;obtain ⟨x,hx,ha⟩:=List.any_eq_true.1 h;rw[(hmem x hx).1] at ha;cases ha
  have hgb:=Q1 hok hbs;simp only[h1,hasl,List.append_nil,List.map_nil,List.any_nil,hany,Bool.false_or,hnd,decide_true,Bool.not_true,q8,hro,wg,if_true,hmap,List.map_map,List.all_nil,yU _ h1];have hcomp:(bs.map ((fun x=>x.cs) ∘ fun x=>({ ty:=x.ty,arr:=x.arr,cs:=AV.zb (AV.zh (idx · B) (AV.ze σ.zg x.cs)) }:Bx)))=bs.map fun x=>AV.zb (AV.zh (idx · B) x.cs):=List.map_congr_left fun x hx=>by simp only[Function.comp,hsn x hx]
  simp only[hcomp,hgb];rw[if_neg (by
   simp only[Bool.not_eq_true,List.any_eq_false,Bool.not_eq_true',Bool.not_eq_false];intro x hx;rw[hsn x hx];unfold vh;cases ql x.cs<;>rfl)]
  congr 1;funext v;have:(if (v.plain && List.all (List.map (fun x=>AV.zb (AV.zh (idx · B) x.cs)) bs) AV.zp)=true then K (St.put σ d (v.zj (B[·]?))) else K (St.put σ d (v.zj (B[·]?))))=K (St.put σ d (v.zj (B[·]?))):=ite_self _;exact congrArg _ this
theorem WY {f:FuncId} {l:List AV} {d:Option Nat} {σ:St} {K:St->Prop} (hro:S.frs.ro.contains f=true) (hok:X6 σ l (yv σ l)=true) (h:jG P S n f l d σ K) :
  ∃v,K (σ.put d v)/\∀τ:St,(∀b∈yv σ l,σ.bx.getD b none=τ.bx.getD b none)->∀K',K' (τ.put d v)->jG P S n f l d τ K':=by
 obtain ⟨_,_,_,h4⟩:=vo hok;obtain ⟨bs,hbs⟩:=TW (g:=fun b=>σ.bx.getD b none) fun b hb=>by obtain ⟨x,hx,_⟩:=h4 b hb;exact⟨x,hx⟩
 rw[QE hro rfl hok hbs] at h;cases hf:P.funcs[f]? with
 |none=>rw[hf] at h;exact h.elim
 |some fn =>
  rw[hf] at h;obtain ⟨v,⟨h5,h6⟩,h7⟩:=uS _ h;refine⟨_,h6,fun τ ht K' hk=>?_⟩;have hbs':(yv σ l).mapM (fun b=>τ.bx.getD b none)=some bs:=by rw[<- hbs];exact(UE ht).symm
  rw[QE hro (Py hok ht) (Lf hok ht) hbs',hf];exact h7 _ ⟨h5,hk⟩
theorem Mw {P:Program} (x:Bx):Ang (QQ P x):=by
 intro K h;unfold QQ at h ⊢;split at h
 ·rename_i hm;obtain ⟨es,h⟩:=h;exact⟨_,h,fun K' h=>by rw[if_pos hm];exact⟨es,h⟩⟩
 ·rename_i hm;split at h
  ·rename_i hc;simp only[hm,hc,if_true,Bool.false_eq_true,if_false];split at h
   ·rename_i hx;exact⟨_,h,fun K' h=>by simpa only[hx] using h⟩
   ·rename_i hx;exact⟨_,h,fun K' h=>by simpa only[hx] using h⟩
   ·rename_i hx;exact⟨_,h,fun K' h=>by simpa only[hx] using h⟩
   ·rename_i h1 h2 h3;obtain ⟨cs,h4,h5⟩:=uo _ _ _ h;refine⟨cs,h4,fun K' hk=>?_⟩;exact h5 _ hk
  ·rename_i hc;obtain ⟨cs,h3,h4⟩:=uo _ _ _ h;refine⟨Pe x.cs cs,h3,fun K' hk=>?_⟩;rw[if_neg hm,if_neg hc];exact h4 (fun l=>K' (Pe x.cs l)) hk
theorem SM {k:Nat->Bool} {P:Program} (bs:List Bx):∀i,Ang (we k P i bs):=by
 induction bs with
 |nil=>intro i K h;exact⟨[],h,fun _ h=>h⟩
 |cons x r ih =>
  intro i K h;unfold we at *;split at h
  ·rename_i hk;obtain ⟨l,h3,h4⟩:=ih _ _ h;exact⟨_,h3,fun K' hh=>by rw[if_pos hk];exact h4 _ hh⟩
  ·rename_i hk;obtain ⟨cs,h1,h2⟩:=Mw _ _ h;obtain ⟨l,h3,h4⟩:=ih _ _ h1;exact⟨_,h3,fun K' hh=>by rw[if_neg hk];exact h2 _ (h4 _ hh)⟩
theorem Y8 {ro:Bool} {k:Nat->Bool} {P:Program} (bs:List Bx):Ang (wg ro k P bs):=by
 intro K h;unfold wg at *;split at h
 ·rename_i hr;exact⟨_,h,fun K' hk=>by rw[if_pos hr];exact hk⟩
 ·rename_i hr;obtain ⟨l,h1,h2⟩:=SM bs 0 K h;exact⟨l,h1,fun K' hk=>by rw[if_neg hr];exact h2 K' hk⟩
theorem Wc {σ:St} {l:List AV} {B:List Nat} (h:U7 σ l B=true):AV.za l=[]/\(∀b∈AV.zd l,b∈B)/\B.Nodup/\∀b∈B,∃x,σ.bx.getD b none=some x/\x.arr=false/\AV.za x.cs=[]/\∀r∈AV.zd x.cs,r∈B:=by
 simp only[U7,Bool.and_eq_true,List.isEmpty_iff,List.all_eq_true,decide_eq_true_eq,List.contains_iff_mem] at h;refine⟨h.1.1.1,h.1.1.2,h.1.2,fun b hb=>?_⟩;have:=h.2 b hb;split at this
 ·rename_i x hx;simp only[Bool.and_eq_true,Bool.not_eq_true',List.isEmpty_iff,List.all_eq_true,List.contains_iff_mem] at this;exact⟨x,hx,this.1.1,this.1.2,this.2⟩
 ·cases this
theorem S7 {σ τ:St} {l:List AV} (h:U7 σ l (yv σ l)=true) (ht:∀b∈yv σ l,σ.bx.getD b none=τ.bx.getD b none):yv τ l=yv σ l:=by
 obtain ⟨h1,h2,_,h4⟩:=Wc h;have hs:∀b∈yv σ l,(σ.box b).map (AV.ze σ.zg)=σ.box b:=by
  intro b hb;obtain ⟨x,hx,_,hr,_⟩:=h4 b hb;rw[yi hx,Option.map_some,yU _ hr]
 have htb:∀b∈yv σ l,(τ.box b).map (AV.ze τ.zg)=σ.box b:=by
  intro b hb;obtain ⟨x,hx,_,hr,_⟩:=h4 b hb;rw[yi hx,yi (ht b hb▸hx),Option.map_some,yU _ hr]
 have e:yv τ l=wo (fun b=>(τ.box b).map (AV.ze τ.zg)) 30 (AV.zd l) []:=by rw[yv,yU _ h1]
 rw[e];refine Wn (g:=fun b=>(σ.box b).map (AV.ze σ.zg)) 30 _ _ ?_ h2 (fun b hb=>by rw[hs b hb,htb b hb]) ?_
 ·rw[yv,yU _ h1]
 ·intro b hb cs hc r hr;rw[hs b hb] at hc;obtain ⟨x,hx,_,_,hro⟩:=h4 b hb;rw[yi hx] at hc;cases hc;exact hro r hr
theorem Lv {σ τ:St} {l:List AV} {B:List Nat} (h:U7 σ l B=true) (ht:∀b∈B,σ.bx.getD b none=τ.bx.getD b none):U7 τ l B=true:=by
 unfold U7 at h ⊢;rw[Bool.and_eq_true] at h ⊢;refine⟨h.1,List.all_eq_true.2 fun b hb=>?_⟩;have:=List.all_eq_true.1 h.2 b hb;rw[<- ht b hb];exact this
theorem QF {f:FuncId} {l:List AV} {d:Option Nat} {σ:St} {K:St->Prop} {B:List Nat} {bs:List Bx} (hB:yv σ l=B) (hok:U7 σ l B=true) (hbs:B.mapM (fun b=>σ.bx.getD b none)=some bs) :
  jG P S n f l d σ K=(match P.funcs[f]? with
   |some fn=>Wf P S.frs f fn.resultTypes.toList fun v=>wg (S.frs.ro.contains f) (fun i=>S.frs.ro.contains (f+1000000*(i+1))) P (bs.map fun x=>{ x with cs:=AV.zb (AV.zh (idx · B) x.cs) }) fun O' =>
    S.spec f (AV.zb (AV.zh (idx · B) l)) (bs.map fun x=>AV.zb (AV.zh (idx · B) x.cs)) v O'/\K ({ σ with bx:=yC B O' [] σ.bx }.put d (v.zj (B[·]?)))
   |none=>False):=by
 obtain ⟨h1,h2,hnd,h4⟩:=Wc hok;obtain ⟨hl,hi⟩:=u6 hbs;have hmem:∀x∈bs,x.arr=false/\AV.za x.cs=[]:=by
  intro x hx;obtain ⟨i,hib,rfl⟩:=List.getElem_of_mem hx;have hiB:i<B.length:=by omega
  obtain ⟨y,h5,h6⟩:=hi i B[i] (by simp[hiB]);obtain ⟨z,h7,h8,h9,_⟩:=h4 B[i] (List.getElem_mem hiB);rw[h6] at h7;cases h7;rw[List.getElem?_eq_getElem hib] at h5;cases h5;exact⟨h8,h9⟩
 have hsn:∀x∈bs,AV.ze σ.zg x.cs=x.cs:=fun x hx=>yU _ (hmem x hx).2
 have hmap:(bs.map fun x=>AV.zb (AV.zh (idx · B) (AV.ze σ.zg x.cs)))=bs.map fun x=>AV.zb (AV.zh (idx · B) x.cs):=List.map_congr_left fun x hx=>by rw[hsn x hx]
 have hmap2:(bs.map fun x=>({ ty:=x.ty,arr:=x.arr,cs:=AV.zb (AV.zh (idx · B) (AV.ze σ.zg x.cs)) }:Bx))=bs.map fun x=>{ x with cs:=AV.zb (AV.zh (idx · B) x.cs) }:=List.map_congr_left fun x hx=>by rw[hsn x hx]
 have hasl:AV.za (bs.flatMap (·.cs))=[]:=by
  have key:∀(p q:List AV),AV.za (p++q)=AV.za p++AV.za q:=by
   intro p q;induction p with
   |nil=>rfl
   |cons c r ih=>simp[AV.za,ih]
  have:∀(l:List Bx),(∀x∈l,AV.za x.cs=[])->AV.za (l.flatMap (·.cs))=[]:=by
   intro l;induction l with
   |nil=>intro _;rfl
   |cons x r ih=>intro h;rw[List.flatMap_cons,key,h x (by simp),ih fun y hy=>h y (List.mem_cons_of_mem _ hy)];rfl
  exact this bs fun x hx=>(hmem x hx).2
 unfold jG;dsimp only;have hB':wo (fun b=>(σ.box b).map (AV.ze σ.zg)) 30 (AV.zd (AV.ze σ.zg l)) []=B:=hB;rw[hB',hbs];cases hf:P.funcs[f]? with
 |none=>rfl
 |some fn =>
  have hany:(bs.any (·.arr))=false:=by
   rw[Bool.eq_false_iff];intro h;obtain ⟨x,hx,ha⟩:=List.any_eq_true.1 h;rw[(hmem x hx).1] at ha;cases ha
  simp only[h1,hasl,List.append_nil,List.map_nil,List.any_nil,hany,Bool.false_or,hnd,decide_true,Bool.not_true,q8,hmap,hmap2,List.all_nil,yU _ h1];rw[if_neg (by
   simp only[Bool.not_eq_true,List.any_eq_false,Bool.not_eq_true',Bool.not_eq_false];intro x hx;rw[hsn x hx];unfold vh;cases ql x.cs<;>rfl)]
  congr 1;funext v;congr 1;funext O';have:∀(c:Bool) (A:Prop),(if c=true then A else if True then A else False)=A:=fun c A=>by cases c<;>simp
  congr 1;simp only[if_true];exact ite_self _
theorem Li {β:Type} (g:Nat->β):∀(B:List Nat) (l:List β) (i:Nat),((B.map fun b=>(b,g b)).foldl (fun l e=>l.set e.1 e.2) l)[i]? = if i∈B/\i<l.length then some (g i) else l[i]?:=by
 intro B;induction B with
 |nil=>intro l i;simp
 |cons b r ih =>
  intro l i;simp only[List.map_cons,List.foldl_cons];rw[ih,List.length_set];by_cases h:i=b
  ·subst h;by_cases hl:i<l.length
   ·by_cases hr:i∈r<;>simp[hl,hr]
   ·simp[hl]
  ·rw[List.getElem?_set_ne (Ne.symm h)];simp[h]
theorem OB {b:Nat} {B:List Nat} (h:b∉B):idx b B=none:=by
 cases hi:idx b B with
 |none=>rfl
 |some i=>exact absurd (List.mem_of_getElem? (xc hi)) h
theorem vH {B:List Nat} {O:List (List AV)} {σ τ:St} {d:Option Nat} {v:AV} (ht:∀b∈B,σ.bx.getD b none=τ.bx.getD b none) (hlt:∀b∈B,b<τ.bx.length) :
  τ.zk d v (B.map fun b=>(b,(yC B O [] σ.bx).getD b none))=({ τ with bx:=yC B O [] τ.bx }:St).put d v:=by
 have:(B.map fun b=>(b,(yC B O [] σ.bx).getD b none)).foldl (fun l e=>l.set e.1 e.2) τ.bx=yC B O [] τ.bx:=by
  apply List.ext_getElem?;intro i;rw[Li];by_cases hi:i∈B
  ·have hl:=hlt i hi;rw[if_pos ⟨hi,hl⟩];have h1:=ht i hi;have hl':(yC B O [] τ.bx).length=τ.bx.length:=by unfold yC;exact uG
   rw[List.getElem?_eq_getElem (by omega)];congr 1;have e:∀bx:List (Option Bx),(yC B O [] bx).getD i none=match bx.getD i none,idx i B with
     |some y,some j=>some { y with cs:=AV.zh (B[·]?) (O.getD j []) }
     |x,none=>x
     |none,_=>none:=by
    intro bx;simp only[yC,List.getD,xe,List.contains_nil];cases bx[i]? with
    |none=>cases idx i B<;>rfl
    |some x=>cases x<;>cases idx i B<;>rfl
   have h2:(yC B O [] τ.bx)[i]'(by omega)=(yC B O [] τ.bx).getD i none:=by simp[List.getD,hl',hl]
   rw[h2,e,e,h1]
  ·rw[if_neg (fun h=>hi h.1)];simp only[yC,xe,OB hi];cases τ.bx[i]?<;>rfl
 cases d with
 |none=>simp only[St.zk,St.put,this]
 |some d=>simp only[St.zk,St.put,this]
theorem WZ {f:FuncId} {l:List AV} {d:Option Nat} {σ:St} {K:St->Prop} (hok:U7 σ l (yv σ l)=true) (h:jG P S n f l d σ K) :
  ∃v U,K (σ.zk d v U)/\(∀e∈U,e.1∈yv σ l/\∀x,e.2=some x->(σ.zk d v U).bx.getD e.1 none=some x) /\
   ∀τ:St,(∀b∈yv σ l,σ.bx.getD b none=τ.bx.getD b none)->∀K',K' (τ.zk d v U)->jG P S n f l d τ K':=by
 obtain ⟨_,_,_,h4⟩:=Wc hok;obtain ⟨bs,hbs⟩:=TW (g:=fun b=>σ.bx.getD b none) fun b hb=>by obtain ⟨x,hx,_⟩:=h4 b hb;exact⟨x,hx⟩
 rw[QF rfl hok hbs] at h;cases hf:P.funcs[f]? with
 |none=>rw[hf] at h;exact h.elim
 |some fn =>
  rw[hf] at h;obtain ⟨v,h5,h6⟩:=uS _ h;obtain ⟨O,⟨h7,h8⟩,h9⟩:=Y8 _ _ h5;have hlt:∀τ:St,(∀b∈yv σ l,σ.bx.getD b none=τ.bx.getD b none)->∀b∈yv σ l,b<τ.bx.length:=fun τ ht b hb=>by
   obtain ⟨x,hx,_⟩:=h4 b hb;rw[ht b hb] at hx;exact vj hx
  refine⟨v.zj ((yv σ l)[·]?),(yv σ l).map fun b=>(b,(yC (yv σ l) O [] σ.bx).getD b none),?_,?_,?_⟩
  ·rw[vH (fun _ _=>rfl) (hlt σ fun _ _=>rfl)];exact h8
  ·intro e he;obtain ⟨b,hb,rfl⟩:=List.mem_map.1 he;refine⟨hb,fun x hx=>?_⟩;rw[vH (fun _ _=>rfl) (hlt σ fun _ _=>rfl)];cases d<;>exact hx
  ·intro τ ht K' hk;have hbs':(yv σ l).mapM (fun b=>τ.bx.getD b none)=some bs:=by rw[<- hbs];exact(UE ht).symm
   rw[QF (S7 hok ht) (Lv hok ht) hbs',hf];refine h6 _ (h9 _ ⟨h7,?_⟩);rw[vH ht (hlt τ ht)] at hk;exact hk
end
end Go.Proofs.YtkojpnkknehhmaaGreatDoor

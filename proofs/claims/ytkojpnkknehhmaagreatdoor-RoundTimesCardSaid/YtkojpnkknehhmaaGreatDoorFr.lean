/- The frame of a law: what comes in, as values of the evaluator; a contract as the row asks it. Nothing here speaks of one program. -/
import Derived.Test.YtkojpnkknehhmaaGreatDoorG1
import Derived.ProofKit
import Derived.SizedLaws
import Derived.OpenShut
import Derived.ShutString
import Derived.ChangeOld
import Derived.Below
import Derived.Carry
import Derived.WideShapes
namespace Go.Proofs.YtkojpnkknehhmaaGreatDoor
open Go.RowKit
def kv (W:World):RO:=fun k=>W.heap[k]?
theorem uJ {W:World} {a:Addr} {v:Value} (h:W.cell? a=some v):(kv W).cell a.block a.off=some v:=by
 unfold World.cell? at h;unfold RO.cell kv;split at h
 ·rename_i c t fr hb;split at h
  ·cases h
  ·simp only[hb];exact h
 ·cases h
def Ua (P:Program):Nat->List Field->Option Nat
 |off,[]=>some off
 |off,f::r=>if f.offset=off then Ua P (off+P.cellsOf f.type) r else none
def okT (P:Program):Nat->Bool->TypeId->Bool
 |0,_,_=>false
 |d+1,top,t =>
  match P.underlying t with
  |some .bool | some (.int _) | some .string=>true
  |some (.slice e)=>(top || decide (0<P.cellsOf e)) && okT P d false e && (if yf P e then true else P.cellsOf e == 1)
  |some (.struct fs)=>fs.toList.all (fun f=>okT P d top f.type) && Ua P 0 fs.toList == some (P.cellsOf t)
  |some (.array n e)=>okT P d top e && n*P.cellsOf e == P.cellsOf t
  |_=>false
def yM (P:Program):Nat->TypeId->List AV->Prop
 |0,_,_=>False
 |d+1,t,cs =>
  match P.underlying t with
  |some .bool=>∃b,cs=[.bool b]
  |some (.int k)=>∃n,cs=[.int k n]/\(Lit.int k n).wf=true
  |some .string=>∃s:ByteArray,cs=[.str s]/\s.size<=maxLen
  |some (.slice e)=>∃ps:List (List AV),cs=[.slc 3 (ps.map fun c=>if yf P e then .agg c else c.getD 0 .undef)]/\ps.length<=maxLen/\ps.length*P.bytesOf e<=reachBytes/\∀p∈ps,yM P d e p
  |some (.struct fs)=>∃ps:List (List AV),cs=ps.flatten/\ps.length=fs.size/\∀(i:Nat) (f:Field),fs[i]? = some f->yM P d f.type (ps.getD i [])
  |some (.array n e)=>∃ps:List (List AV),cs=ps.flatten/\ps.length=n/\∀p∈ps,yM P d e p
  |_=>False
def uM (v:Value):Prop:=∀a len cap,v=.slice (some a) len cap->a.spot=none
theorem Xf {α β:Type} {g:α->Option β}:∀ {l:List α} {r:List β},l.mapM g=some r->r.length=l.length/\∀(i:Nat) (a:α),l[i]? = some a->∃b,r[i]? = some b/\g a=some b:=by
 intro l;induction l with
 |nil=>intro r h;cases h;exact⟨rfl,fun i a hi=>by simp at hi⟩
 |cons x s ih =>
  intro r h;rw[List.mapM_cons] at h;cases hx:g x with
  |none=>simp[hx] at h
  |some y =>
   cases hr:s.mapM g with
   |none=>simp[hx,hr] at h
   |some ys =>
    simp only[hx,hr,Option.bind_eq_bind,Option.bind_some,Option.pure_def,Option.some.injEq] at h;subst h;obtain ⟨h1,h2⟩:=ih hr;refine⟨by simp[h1],fun i a hi=>?_⟩;cases i with
    |zero=>simp only[List.getElem?_cons_zero,Option.some.injEq] at hi;subst hi;exact⟨y,by simp,hx⟩
    |succ i=>simpa using h2 i a (by simpa using hi)
section
variable {P:Program} {W:World} {H:Type} {enc:TypeId × Value->H}
def YO (P:Program) (t:TypeId) {H:Type} (x:DataW H):Prop:=∀n∈x.weights P t,n<=reachBytes
theorem xn {H:Type} {P:Program} {e:TypeId} {d:DataW H} {n:Nat}:∀ {ds:List (DataW H)},d∈ds->n∈d.weights P e->n∈DataW.weightsAll P e ds
 |_::_,.head _,hn=>by simp only[DataW.weightsAll,List.mem_append];exact .inl hn
 |_::_,.tail _ h,hn=>by simp only[DataW.weightsAll,List.mem_append];exact .inr (xn h hn)
def Xz (P:Program) (W:World) (d:Nat) (t:TypeId) (cs:List Value) (avs:List AV):Prop :=
 avs.length=cs.length/\(∀j,j<cs.length->Rv (kv W) none (avs.getD j .undef) (cs.getD j Go.undef))/\yM P d t avs
theorem TJ:∀(ps:List (List AV)) (j:Nat) (p:List AV),(p++ps.flatten).getD j .undef=if j<p.length then p.getD j .undef else ps.flatten.getD (j-p.length) .undef:=by
 intro ps j p;simp only[List.getD,List.getElem?_append];split<;>rfl
theorem QT {d:Nat} {top:Bool} {cs:List Value} (ih:∀(t:TypeId) (cs:List Value) (x:DataW H × List MemPlace),DataW.trod enc P W 0 (fun _=>true) true d t cs=some x->YO P t x.1->okT P d top t=true->(top=true->∀v∈cs,uM v)->∃avs,Xz P W d t cs avs)
  (hsp:top=true->∀v∈cs,uM v):∀(fl:List Field) (off e:Nat) (xs:List (DataW H × List MemPlace)),fl.mapM (fun f=>DataW.trod enc P W 0 (fun _=>true) true d f.type ((cs.drop f.offset).take (P.cellsOf f.type)))=some xs ->
   (∀(i:Nat) (g:Field) (x:DataW H × List MemPlace),fl[i]? = some g->xs[i]? = some x->YO P g.type x.1)->Ua P off fl=some e->e<=cs.length->(∀f∈fl,okT P d top f.type=true) ->
   ∃ps:List (List AV),ps.length=fl.length/\off+ps.flatten.length=e/\(∀j,j<ps.flatten.length->Rv (kv W) none (ps.flatten.getD j .undef) (cs.getD (off+j) Go.undef))/\∀(i:Nat) (f:Field),fl[i]? = some f->yM P d f.type (ps.getD i []):=by
 intro fl;induction fl with
 |nil =>
  intro off e xs _ _ hc _ _;simp only[Ua,Option.some.injEq] at hc;exact⟨[],rfl,by simpa using hc,fun j hj=>by simp at hj,fun i f hi=>by simp at hi⟩
 |cons f r ihl =>
  intro off e xs hm hsm hc hle hok;simp only[Ua] at hc;split at hc
  case isFalse=>cases hc
  rename_i hoff;rw[List.mapM_cons] at hm;cases hx:DataW.trod enc P W 0 (fun _=>true) true d f.type ((cs.drop f.offset).take (P.cellsOf f.type)) with
  |none=>simp[hx] at hm
  |some y =>
   cases hr:r.mapM (fun f=>DataW.trod enc P W 0 (fun _=>true) true d f.type ((cs.drop f.offset).take (P.cellsOf f.type))) with
   |none=>simp[hx,hr] at hm
   |some ys =>
    obtain ⟨ps,h1,h2,h3,h4⟩:=ihl _ e ys hr (fun i g x h1 h2=>hsm (i+1) g x (by simpa using h1) (by simp only[hx,hr,Option.bind_eq_bind,Option.bind_some,Option.pure_def,Option.some.injEq] at hm;subst hm;simpa using h2)) hc hle fun g hg=>hok g (List.mem_cons_of_mem _ hg)
    obtain ⟨p,q1,q2,q3⟩:=ih f.type _ y hx (hsm 0 f y rfl (by simp only[hx,hr,Option.bind_eq_bind,Option.bind_some,Option.pure_def,Option.some.injEq] at hm;subst hm;rfl)) (hok f (by simp)) (fun ht v hv=>hsp ht v (List.mem_of_mem_drop (List.mem_of_mem_take hv)));have hpl:p.length=P.cellsOf f.type:=by rw[q1,List.length_take,List.length_drop];omega
    refine⟨p::ps,by simp[h1],by simp only[List.flatten_cons,List.length_append];omega,fun j hj=>?_,fun i g hi=>?_⟩
    ·simp only[List.flatten_cons,TJ];simp only[List.flatten_cons,List.length_append] at hj;split
     ·rename_i hjp;have:=q2 j (by rw[<- q1];exact hjp);have e1:((cs.drop f.offset).take (P.cellsOf f.type)).getD j Go.undef=cs.getD (off+j) Go.undef:=by
       simp only[List.getD,List.getElem?_take,List.getElem?_drop];rw[if_pos (by omega),hoff]
      rw[e1] at this;exact this
     ·rename_i hjp;have:=h3 (j-p.length) (by omega);rw[show off+P.cellsOf f.type+(j-p.length)=off+j by omega] at this;exact this
    ·cases i with
     |zero=>simp only[List.getElem?_cons_zero,Option.some.injEq] at hi;subst hi;exact q3
     |succ i=>simpa using h4 i g (by simpa using hi)
theorem Om {d:Nat} {top:Bool} {cs:List Value} {e:TypeId} (ih:∀(t:TypeId) (cs:List Value) (x:DataW H × List MemPlace),DataW.trod enc P W 0 (fun _=>true) true d t cs=some x->YO P t x.1->okT P d top t=true->(top=true->∀v∈cs,uM v)->∃avs,Xz P W d t cs avs)
  (hsp:top=true->∀v∈cs,uM v) (hok:okT P d top e=true):∀(n i0:Nat) (xs:List (DataW H × List MemPlace)),(List.range' i0 n).mapM (fun i=>DataW.trod enc P W 0 (fun _=>true) true d e ((cs.drop (i*P.cellsOf e)).take (P.cellsOf e)))=some xs ->
   (∀x∈xs,YO P e x.1)->(i0+n)*P.cellsOf e<=cs.length ->
   ∃ps:List (List AV),ps.length=n/\ps.flatten.length=n*P.cellsOf e/\(∀j,j<ps.flatten.length->Rv (kv W) none (ps.flatten.getD j .undef) (cs.getD (i0*P.cellsOf e+j) Go.undef))/\∀p∈ps,yM P d e p:=by
 intro n;induction n with
 |zero=>intro i0 xs _ _ _;exact⟨[],rfl,by simp,fun j hj=>by simp at hj,fun p hp=>by simp at hp⟩
 |succ n ihn =>
  intro i0 xs hm hsm hle;rw[List.range'_succ,List.mapM_cons] at hm;cases hx:DataW.trod enc P W 0 (fun _=>true) true d e ((cs.drop (i0*P.cellsOf e)).take (P.cellsOf e)) with
  |none=>simp[hx] at hm
  |some y =>
   cases hr:(List.range' (i0+1) n).mapM (fun i=>DataW.trod enc P W 0 (fun _=>true) true d e ((cs.drop (i*P.cellsOf e)).take (P.cellsOf e))) with
   |none=>simp[hx,hr] at hm
   |some ys =>
    have hle':(i0+1+n)*P.cellsOf e<=cs.length:=by rw[show i0+1+n=i0+(n+1) by omega];exact hle
    obtain ⟨ps,h1,h2,h3,h4⟩:=ihn (i0+1) ys hr (fun x h=>hsm x (by simp only[hx,hr,Option.bind_eq_bind,Option.bind_some,Option.pure_def,Option.some.injEq] at hm;subst hm;exact List.mem_cons_of_mem _ h)) hle';obtain ⟨p,q1,q2,q3⟩:=ih e _ y hx (hsm y (by simp only[hx,hr,Option.bind_eq_bind,Option.bind_some,Option.pure_def,Option.some.injEq] at hm;subst hm;simp)) hok (fun ht v hv=>hsp ht v (List.mem_of_mem_drop (List.mem_of_mem_take hv)));have e0:(i0+1)*P.cellsOf e=i0*P.cellsOf e+P.cellsOf e:=Nat.succ_mul ..;have e2:(i0+1+n)*P.cellsOf e=(i0+1)*P.cellsOf e+n*P.cellsOf e:=Nat.add_mul ..;have e3:(n+1)*P.cellsOf e=n*P.cellsOf e+P.cellsOf e:=Nat.succ_mul ..;have hpl:p.length=P.cellsOf e:=by rw[q1,List.length_take,List.length_drop];omega
    refine⟨p::ps,by simp[h1],by simp only[List.flatten_cons,List.length_append];omega,fun j hj=>?_,fun g hg=>?_⟩
    ·simp only[List.flatten_cons,TJ];simp only[List.flatten_cons,List.length_append] at hj;split
     ·rename_i hjp;have:=q2 j (by rw[<- q1];exact hjp);have e1:((cs.drop (i0*P.cellsOf e)).take (P.cellsOf e)).getD j Go.undef=cs.getD (i0*P.cellsOf e+j) Go.undef:=by
       simp only[List.getD,List.getElem?_take,List.getElem?_drop];rw[if_pos (by omega)]
      rw[e1] at this;exact this
     ·rename_i hjp;have:=h3 (j-p.length) (by omega);rw[show (i0+1)*P.cellsOf e+(j-p.length)=i0*P.cellsOf e+j by omega] at this;exact this
    ·rcases List.mem_cons.1 hg with rfl | hg
     ·exact q3
     ·exact h4 g hg
theorem S5 {P:Program} {d:Nat} {e:TypeId} {v:AV} (hg:¬ yf P e=true) (h:yM P d e [v]):AV.one v=true:=by
 cases d with
 |zero=>exact h.elim
 |succ d =>
  unfold yM at h;unfold yf at hg;cases hu:P.underlying e with
  |none=>rw[hu] at h;exact h.elim
  |some u =>
   rw[hu] at h hg;cases u with
   |bool=>obtain ⟨b,hb⟩:=h;cases hb;rfl
   |int k=>obtain ⟨b,hb,_⟩:=h;cases hb;rfl
   |string=>obtain ⟨b,hb,_⟩:=h;cases hb;rfl
   |slice e=>obtain ⟨b,hb,_⟩:=h;cases hb;rfl
   |struct fs=>exact absurd rfl hg
   |array n e=>exact absurd rfl hg
   |_=>exact h.elim
theorem Qm {a:Addr} (h:a.spot=none) (n:Nat):a.add n=⟨a.block,a.off+n,none⟩:=by
 unfold Addr.add;split
 ·rename_i hn;subst hn;cases a;simp_all
 ·rfl
theorem PF {t e:TypeId} {len:Nat} {m:Option (List (DataW H × List MemPlace))} {elems:List (DataW H × List MemPlace)} {x:DataW H × List MemPlace} {r:List (DataW H × List MemPlace)->Option (List (DataW H × List MemPlace))}
  {g:List (DataW H × List MemPlace)->List (DataW H × List MemPlace)->List MemPlace} (hu:P.underlying t=some (.slice e)) (hm:m=some elems) (hel:elems.length=len)
  (h:(m.bind fun elems=>(r elems).map fun rest=>(DataW.slice (elems.map (·.1)) (rest.map (·.1)),g elems rest))=some x) (hsm:YO P t x.1) :
  len*P.bytesOf e<=reachBytes/\∀y∈elems,YO P e y.1:=by
 obtain ⟨rest,hxe⟩:∃rest,x.1=.slice (elems.map (·.1)) rest:=by
  rw[hm,Option.bind_some] at h;obtain ⟨r,_,hr⟩:=Option.map_eq_some_iff.1 h;exact⟨_,by rw[<- hr]⟩
 unfold YO at hsm;rw[hxe] at hsm;simp only[DataW.weights,hu] at hsm;refine⟨?_,fun y hy n hn=>hsm n (List.mem_cons_of_mem _ (List.mem_append_left _ (xn (List.mem_map_of_mem hy) hn)))⟩;refine Nat.le_trans (Nat.mul_le_mul_right _ ?_) (hsm _ (List.mem_cons_self ..));rw[List.length_map,hel];exact Nat.le_add_right _ _
theorem Lr:∀(d:Nat) (top:Bool) (t:TypeId) (cs:List Value) (x:DataW H × List MemPlace),DataW.trod enc P W 0 (fun _=>true) true d t cs=some x->YO P t x.1->okT P d top t=true->(top=true->∀v∈cs,uM v)->∃avs,Xz P W d t cs avs:=by
 intro d;induction d with
 |zero=>intro top t cs x h;simp[DataW.trod] at h
 |succ d ih =>
  intro top t cs x h hsm hok hsp;have one:∀(av:AV) (v:Value),cs=[v]->Rv (kv W) none av v->yM P (d+1) t [av]->∃avs,Xz P W (d+1) t cs avs:=by
   rintro av v rfl hr hc;exact⟨[av],rfl,fun j hj=>by cases j with
    |zero=>exact hr
    |succ j=>simp at hj,hc⟩
  unfold okT at hok;unfold DataW.trod at h;cases hu:P.underlying t with
  |none=>simp[hu] at hok
  |some u =>
   rw[hu] at h hok;cases u with
   |bool =>
    simp only at h;split at h<;>try (simp_all;done)
    rename_i b he;exact one (.bool b) _ rfl (.bool ..) (by simp[yM,hu])
   |int k =>
    simp only at h;split at h<;>try (simp_all;done)
    rename_i kq k' n he;cases he;split at h
    ·rename_i hk;obtain ⟨rfl,hw⟩:=hk;exact one (.int _ n) _ rfl (.int ..) (by simp only[yM,hu];exact⟨n,rfl,hw⟩)
    ·cases h
   |string =>
    simp only at h;split at h<;>try (simp_all;done)
    rename_i s he;split at h
    ·rename_i hs;exact one (.str s) _ rfl (.str ..) (by simp only[yM,hu];exact⟨s,rfl,hs⟩)
    ·cases h
   |slice e =>
    simp only[Bool.and_eq_true] at hok;obtain ⟨⟨htop,hoe⟩,hag⟩:=hok;simp only at h;split at h<;>try (simp_all;done)
    ·exact one (.slc 3 []) _ rfl (.nilslc ..) (by simp only[yM,hu];exact⟨[],rfl,Nat.zero_le _,by rw[List.length_nil,Nat.zero_mul];exact Nat.zero_le _,fun p hp=>by simp at hp⟩)
    ·rename_i e' a len cap he;cases he;split at h
     case isFalse=>cases h
     rename_i hc;obtain ⟨_,hlc,hcm⟩:=hc;cases hm:(List.range len).mapM (fun i=>(W.cells? 0 (a.add (i*P.cellsOf e)) (P.cellsOf e)).bind (DataW.trod enc P W 0 (fun _=>true) true d e)) with
     |none=>rw[hm] at h;simp at h
     |some elems =>
      obtain ⟨hel,hei⟩:=Xf hm;rw[List.length_range] at hel;by_cases hspot:a.spot=none
      case neg =>
       have hpos:0<P.cellsOf e:=by
        simp only[Bool.or_eq_true,decide_eq_true_eq] at htop;rcases htop with ht | ht
        ·exact absurd (hsp ht _ (by simp) a len cap rfl) hspot
        ·exact ht
       have hz:W.cells? 0 (a.add (0*P.cellsOf e)) (P.cellsOf e)=none:=by
        cases hcl:W.cells? 0 (a.add (0*P.cellsOf e)) (P.cellsOf e) with
        |none=>rfl
        |some cl =>
         exfalso;unfold World.cells? at hcl;rw[if_pos (Nat.zero_le _)] at hcl;obtain ⟨_,g2⟩:=Xf hcl;obtain ⟨v,_,g4⟩:=g2 0 0 (by simp[hpos]);have e1:(a.add (0*P.cellsOf e)).add 0=a:=by simp[Addr.add]
         rw[e1] at g4;unfold World.cell? at g4;split at g4
         ·rw[if_pos (by cases hs:a.spot<;>simp_all)] at g4;cases g4
         ·cases g4
       have hl0:len=0:=by
        rcases Nat.eq_zero_or_pos len with h0 | h0
        ·exact h0
        ·obtain ⟨b,_,hb⟩:=hei 0 0 (by simp[h0]);rw[hz] at hb;cases hb
       subst hl0;have hc0:cap=0:=by
        rcases Nat.eq_zero_or_pos cap with h0 | h0
        ·exact h0
        ·exfalso;rw[hm] at h;cases hr:(List.range (cap-0)).mapM (fun j=>(W.cells? 0 (a.add ((0+j)*P.cellsOf e)) (P.cellsOf e)).bind (DataW.trod enc P W 0 (fun _=>true) true d e)) with
         |none=>simp only[Option.bind_some,if_true,hr,Option.map_none] at h;cases h
         |some rest =>
          obtain ⟨_,hri⟩:=Xf hr;obtain ⟨b,_,hb⟩:=hri 0 0 (by simp[h0]);rw[Nat.zero_add,hz] at hb;cases hb
       subst hc0;exact one (.slc 3 []) _ rfl (.eslc _ 3 a (by simp)) (by simp only[yM,hu];exact⟨[],rfl,Nat.zero_le _,by rw[List.length_nil,Nat.zero_mul];exact Nat.zero_le _,fun p hp=>by simp at hp⟩)
      obtain ⟨hroom,hsub⟩:=PF hu hm hel h hsm;have hex:∀i:Nat,∃cl:List Value × List AV,i<len->(∀j,j<P.cellsOf e->W.cell? ⟨a.block,a.off+i*P.cellsOf e+j,none⟩=some (cl.1.getD j Go.undef))/\cl.1.length=P.cellsOf e/\Xz P W d e cl.1 cl.2:=by
       intro i;by_cases hi:i<len
       ·obtain ⟨b,hbe,hb⟩:=hei i i (by simp[hi]);cases hcl:W.cells? 0 (a.add (i*P.cellsOf e)) (P.cellsOf e) with
        |none=>simp[hcl] at hb
        |some cl =>
         rw[hcl,Option.bind_some] at hb;obtain ⟨avs,hav⟩:=ih false e cl b hb (hsub b (List.mem_of_getElem? hbe)) hoe (by simp);unfold World.cells? at hcl;rw[if_pos (Nat.zero_le _)] at hcl;obtain ⟨g1,g2⟩:=Xf hcl;rw[List.length_range] at g1;refine⟨(cl,avs),fun _=>⟨fun j hj=>?_,g1,hav⟩⟩;obtain ⟨v,g3,g4⟩:=g2 j j (by simp[hj]);rw[Qm hspot,Qm rfl] at g4;simp only at g4 ⊢;rw[g4,List.getD,g3];rfl
       ·exact⟨([],[]),fun h=>absurd h hi⟩
      let cl:Nat->List Value × List AV:=fun i=>Classical.choose (hex i)
      have hcl:∀i,i<len->(∀j,j<P.cellsOf e->W.cell? ⟨a.block,a.off+i*P.cellsOf e+j,none⟩=some ((cl i).1.getD j Go.undef))/\(cl i).1.length=P.cellsOf e/\Xz P W d e (cl i).1 (cl i).2:=fun i=>Classical.choose_spec (hex i)
      let wrap:List AV->AV:=fun c=>if yf P e then .agg c else c.getD 0 .undef
      let ps:List (List AV):=(List.range len).map fun i=>(cl i).2
      have hpl:ps.length=len:=by simp[ps]
      have hpg:∀i,i<len->(ps.map wrap).getD i .undef=wrap (cl i).2:=by
       intro i hi;simp[ps,List.getD,hi]
      have hps:∀p∈ps,yM P d e p:=by
       intro p hp;obtain ⟨i,hi,rfl⟩:=List.mem_map.1 hp;exact(hcl i (by simpa using hi)).2.2.2.2
      have hw:∀i,i<len->(wrap (cl i).2).cells=(cl i).2:=by
       intro i hi;obtain ⟨_,h2,h3,h4,h5⟩:=hcl i hi;simp only[wrap];by_cases hg:yf P e=true
       ·rw[if_pos hg];rfl
       ·rw[if_neg hg] at hag ⊢;have hone:P.cellsOf e=1:=by simpa using hag
        rw[h2,hone] at h3;obtain ⟨v,hv⟩:=List.length_eq_one_iff.1 h3;rw[hv] at h5 ⊢;have:AV.one v=true:=S5 hg h5;show v.cells=[v];exact T8 this
      refine one (.slc 3 (ps.map wrap)) _ rfl ?_ (by simp only[yM,hu];exact⟨ps,rfl,by omega,by rw[hpl];exact hroom,hps⟩);have hlen:(ps.map wrap).length=len:=by simp[hpl]
      have hrv:=Rv.slc (ρ:=kv W) none 3 (ps.map wrap) a.block a.off cap (P.cellsOf e) (fun i j=>if i<len then (cl i).1.getD j Go.undef else Go.undef) (by simp) (by rw[hlen];exact hlc) (by simp)
       (fun i hi=>by rw[hlen] at hi;rw[hpg i hi,hw i hi,(hcl i hi).2.2.1,(hcl i hi).2.1])
       (fun i hi j hj=>by
        rw[hlen] at hi;simp only[if_pos hi];exact uJ ((hcl i hi).1 j hj))
       (fun i j=>by
        by_cases hi:i<len
        ·rw[hpg i hi,hw i hi];simp only[if_pos hi];by_cases hj:j<(cl i).1.length
         ·exact(hcl i hi).2.2.2.1 j hj
         ·rw[yH (by rw[(hcl i hi).2.2.1];omega)];exact .undef ..
        ·have:(ps.map wrap).getD i .undef=.undef:=yH (by rw[hlen];omega);rw[this];cases j with
         |zero=>exact .undef ..
         |succ j=>exact .undef ..)
      rw[hlen] at hrv;have ha:a=⟨a.block,a.off,none⟩:=by obtain ⟨b,o,s⟩:=a;cases hspot;rfl
      rw[ha];exact hrv
   |struct fs =>
    simp only[Bool.and_eq_true,beq_iff_eq,List.all_eq_true] at hok;simp only at h;split at h
    case isFalse=>cases h
    rename_i hl;cases hm:fs.toList.mapM (fun f=>DataW.trod enc P W 0 (fun _=>true) true d f.type ((cs.drop f.offset).take (P.cellsOf f.type))) with
    |none=>rw[hm] at h;cases h
    |some xs =>
     obtain ⟨ps,h1,h2,h3,h4⟩:=QT (fun t cs x=>ih top t cs x) hsp fs.toList 0 _ xs hm (fun i g y h1 h2 n hn=>hsm n (by rw[hm] at h;simp only[Option.map_some,Option.some.injEq] at h;rw[<- h];simp only[DataW.weights,hu];exact DataW.weights_mem_each (j:=i) (by rw[List.getElem?_map,h1];rfl) (by rw[List.getElem?_map,h2];rfl) n hn)) hok.2 (by omega) hok.1;refine⟨ps.flatten,by omega,fun j hj=>by have:=h3 j (by omega);rw[Nat.zero_add] at this;exact this,?_⟩;simp only[yM,hu];exact⟨ps,rfl,by simpa using h1,fun i f hf=>h4 i f (by simpa using hf)⟩
   |array n e =>
    simp only[Bool.and_eq_true,beq_iff_eq] at hok;simp only at h;split at h
    case isFalse=>cases h
    rename_i hl;cases hm:(List.range n).mapM (fun i=>DataW.trod enc P W 0 (fun _=>true) true d e ((cs.drop (i*P.cellsOf e)).take (P.cellsOf e))) with
    |none=>rw[hm] at h;cases h
    |some xs =>
     rw[List.range_eq_range'] at hm;obtain ⟨ps,h1,h2,h3,h4⟩:=Om (fun t cs x=>ih top t cs x) hsp hok.1 n 0 xs hm (fun y hy m hn=>hsm m (by rw[List.range_eq_range',hm] at h;simp only[Option.map_some,Option.some.injEq] at h;rw[<- h];simp only[DataW.weights,hu];exact xn (List.mem_map_of_mem hy) hn)) (by rw[Nat.zero_add];omega);refine⟨ps.flatten,by omega,fun j hj=>by have:=h3 j (by omega);rw[Nat.zero_mul,Nat.zero_add] at this;exact this,?_⟩;simp only[yM,hu];exact⟨ps,rfl,h1,h4⟩
   |_=>simp at hok
theorem Yg {r:Reach} {base:Nat} {u:TypeId} {v:Value} (h:Cell.okWide P W r base u v):uM v:=by
 rintro a len cap rfl;unfold Cell.okWide at h;split at h<;>try (simp_all;done)
 unfold Cell.ok at h;split at h<;>try (simp_all;done)
 all_goals (rename_i he;cases he;exact h.2.2.2.1)
theorem Pv {r:Reach} {base:Nat} {t:TypeId} {v:Value} (h:Value.okWide P W r base t v):∀x∈v.cells.toList,uM x:=by
 unfold Value.okWide at h;have agg:(∃cs,v=.agg cs/\cs.size=P.cellsOf t/\Row.okWide P W r base t cs)->∀x∈v.cells.toList,uM x:=by
  rintro ⟨cs,rfl,_,ts,_,_,hc⟩ x hx;obtain ⟨i,hi,rfl⟩:=List.getElem_of_mem hx;have hi':i<cs.toList.length:=hi;obtain ⟨u,_,hu⟩:=hc i _ (by rw[<- Array.getElem?_toList,List.getElem?_eq_getElem hi']);exact Yg hu
 split at h
 ·exact agg h
 ·exact agg h
 ·intro x hx;have hs:=Yg h;cases v<;>simp only[Value.cells,List.mem_singleton] at hx<;>try (subst hx;exact hs)
  unfold Cell.okWide at h;split at h<;>try (simp_all;done)
  unfold Cell.ok at h;split at h<;>simp_all
theorem Jb:∀(d:Nat) (top:Bool) (t:TypeId),okT P d top t=true->okT P (d+1) top t=true:=by
 intro d;induction d with
 |zero=>intro top t h;simp[okT] at h
 |succ d ih =>
  intro top t h;unfold okT at h ⊢;cases hu:P.underlying t with
  |none=>rw[hu] at h;simp at h
  |some u =>
   rw[hu] at h;cases u with
   |slice e =>
    simp only[Bool.and_eq_true] at h ⊢;exact⟨⟨h.1.1,ih _ _ h.1.2⟩,h.2⟩
   |struct fs =>
    simp only[Bool.and_eq_true,List.all_eq_true] at h ⊢;exact⟨fun f hf=>ih _ _ (h.1 f hf),h.2⟩
   |array n e =>
    simp only[Bool.and_eq_true] at h ⊢;exact⟨ih _ _ h.1,h.2⟩
   |_=>exact h
theorem GP {D m:Nat} (hm:D<=m) {top:Bool} {t:TypeId} (h:okT P D top t=true):okT P m top t=true:=by
 induction hm with
 |refl=>exact h
 |step _ ih=>exact Jb _ _ _ ih
theorem WU {r:Reach} {base:Nat} {t:TypeId} {v:Value} {x:DataW H} {ps:List MemPlace} {D:Nat} (hok:okT P D true t=true) (h:DataW.Trod enc P W 0 (fun _=>true) true t v x ps) (hsm:YO P t x) (hv:Value.okWide P W r base t v) :
  ∃d avs,yM P d t avs/\Rv (kv W) none (if yf P t then .agg avs else avs.getD 0 .undef) v:=by
 obtain ⟨fuel,hf⟩:=h;obtain ⟨avs,h1,h2,h3⟩:=Lr (max fuel D) true t v.cells.toList _ (DataW.trod_le (Nat.le_max_left ..) hf) hsm (GP (Nat.le_max_right ..) hok) (fun _=>Pv hv);refine⟨_,avs,h3,?_⟩;have agg:(∃cs,v=.agg cs/\cs.size=P.cellsOf t/\Row.okWide P W r base t cs)->Rv (kv W) none (.agg avs) v:=by
  rintro ⟨cs,rfl,_,_⟩;refine .agg _ _ _ h1 fun j=>?_
  by_cases hj:j<cs.size
  ·have:=h2 j hj;rw[<- ja];exact this
  ·rw[yH (by rw[h1];exact Nat.le_of_not_lt hj)];exact .undef ..
 unfold Value.okWide at hv;unfold yf;split at hv
 ·rename_i hu;simp only[hu];exact agg hv
 ·rename_i hu;simp only[hu];exact agg hv
 ·rename_i hn1 hn2;have hg:(match P.underlying t with | some (.struct _) | some (.array _ _)=>true | _=>false)=false:=by
   split
   ·rename_i hu;exact absurd hu (by intro h;exact hn1 _ h)
   ·rename_i hu;exact absurd hu (by intro h;exact hn2 _ _ h)
   ·rfl
  rw[if_neg (by rw[Bool.not_eq_true];exact hg)];have hna:∀cs,v≠.agg cs:=by
   rintro cs rfl;unfold Cell.okWide at hv;split at hv<;>try (simp_all;done)
   unfold Cell.ok at hv;split at hv<;>simp_all
  have hc:v.cells=#[v]:=by cases v<;>first | rfl | exact absurd rfl (hna _)
  rw[hc] at h2;exact h2 0 (by simp)
def X8 (P:Program) (t:TypeId):Option (List TypeId) :=
 match P.underlying t with
 |some (.struct fs)=>some (fs.toList.map (·.type))
 |_=>none
theorem ka {d:Nat} {t:TypeId} {cs:List AV} {tys:List TypeId} (hu:X8 P t=some tys) (h:yM P d t cs):∃(d':Nat) (ps:List (List AV)),cs=ps.flatten/\ps.length=tys.length/\∀(i:Nat) (ty:TypeId),tys[i]? = some ty->yM P d' ty (ps.getD i []):=by
 cases d with
 |zero=>exact h.elim
 |succ d =>
  unfold X8 at hu;unfold yM at h;split at hu
  ·rename_i fs hfs;cases hu;rw[hfs] at h;obtain ⟨ps,h1,h2,h3⟩:=h;refine⟨d,ps,h1,by simpa using h2,fun i ty hi=>?_⟩;simp only[List.getElem?_map] at hi;obtain ⟨f,hf,rfl⟩:=Option.map_eq_some_iff.1 hi;exact h3 i f (by simpa using hf)
  ·cases hu
theorem XI {d:Nat} {t:TypeId} {k:IntKind} {cs:List AV} (hu:P.underlying t=some (.int k)) (h:yM P d t cs):∃n,cs=[.int k n]/\(Lit.int k n).wf=true:=by
 cases d with
 |zero=>exact h.elim
 |succ d=>unfold yM at h;rw[hu] at h;exact h
theorem Of {d:Nat} {t:TypeId} {cs:List AV} (hu:P.underlying t=some .bool) (h:yM P d t cs):∃b,cs=[.bool b]:=by
 cases d with
 |zero=>exact h.elim
 |succ d=>unfold yM at h;rw[hu] at h;exact h
theorem SF {d:Nat} {t:TypeId} {cs:List AV} (hu:P.underlying t=some .string) (h:yM P d t cs):∃s:ByteArray,cs=[.str s]/\s.size<=maxLen:=by
 cases d with
 |zero=>exact h.elim
 |succ d=>unfold yM at h;rw[hu] at h;exact h
theorem Pk {α:Type} {f:List AV->AV} {g:α->AV}:∀(ps:List (List AV)),(∀p∈ps,∃x,f p=g x)->∃xs:List α,ps.map f=xs.map g/\xs.length=ps.length:=by
 intro ps;induction ps with
 |nil=>intro _;exact⟨[],rfl,rfl⟩
 |cons p r ih =>
  intro h;obtain ⟨x,hx⟩:=h p (by simp);obtain ⟨xs,h1,h2⟩:=ih fun q hq=>h q (List.mem_cons_of_mem _ hq)
  exact⟨x::xs,by simp[hx,h1],by simp[h2]⟩
theorem We {α:Type} {g:α->AV} {d:Nat} {t e:TypeId} {cs:List AV} (hu:P.underlying t=some (.slice e)) (hg:∀d p,yM P d e p->∃x,(if yf P e then AV.agg p else p.getD 0 .undef)=g x) (h:yM P d t cs):∃xs:List α,cs=[.slc 3 (xs.map g)]/\xs.length<=maxLen:=by
 cases d with
 |zero=>exact h.elim
 |succ d =>
  unfold yM at h;rw[hu] at h;obtain ⟨ps,h1,h2,_,h3⟩:=h;obtain ⟨xs,h4,h5⟩:=Pk ps fun p hp=>hg d p (h3 p hp)
  exact⟨xs,by rw[h1,h4],by omega⟩
theorem SW {α:Type} {f:List AV->AV} {g:α->AV} {w:α->Prop}:∀(ps:List (List AV)),(∀p∈ps,∃x,f p=g x/\w x)->∃xs:List α,ps.map f=xs.map g/\xs.length=ps.length/\∀x∈xs,w x:=by
 intro ps;induction ps with
 |nil=>intro _;exact⟨[],rfl,rfl,fun x hx=>by simp at hx⟩
 |cons p r ih =>
  intro h;obtain ⟨x,hx,hw⟩:=h p (by simp);obtain ⟨xs,h1,h2,h3⟩:=ih fun q hq=>h q (List.mem_cons_of_mem _ hq)
  refine⟨x::xs,by simp[hx,h1],by simp[h2],fun y hy=>?_⟩;rcases List.mem_cons.1 hy with rfl | hy
  ·exact hw
  ·exact h3 y hy
theorem SE {α:Type} {g:α->AV} {w:α->Prop} {d:Nat} {t e:TypeId} {cs:List AV} (hu:P.underlying t=some (.slice e)) (hg:∀d p,yM P d e p->∃x,(if yf P e then AV.agg p else p.getD 0 .undef)=g x/\w x) (h:yM P d t cs):∃xs:List α,cs=[.slc 3 (xs.map g)]/\xs.length<=maxLen/\xs.length*P.bytesOf e<=reachBytes/\∀x∈xs,w x:=by
 cases d with
 |zero=>exact h.elim
 |succ d =>
  unfold yM at h;rw[hu] at h;obtain ⟨ps,h1,h2,h2',h3⟩:=h;obtain ⟨xs,h4,h5,h6⟩:=SW ps fun p hp=>hg d p (h3 p hp)
  exact⟨xs,by rw[h1,h4],by omega,by rw[h5];exact h2',h6⟩
theorem MT {f:FuncId} {avs:List AV} {vs:Array Value} (h:wB P f avs [] (.bool true) []) (hgl:kJ (kv W)) (hv:Rvs (kv W) none avs vs):Calls P f vs W fun e W'=>e=.returned (.bool true)/\Below W.heap.size W W':=by
 refine(h.run (kv W) (fun _=>(0,0)) W vs hgl (fun k o hk=>hk) (fun b cs hb=>by simp at hb) (fun b b' hb=>by simp at hb) (fun b hb=>by simp at hb) ⟨hv.1,fun j=>(hv.2 j).any _⟩).mono ?_;rintro e W' ⟨⟨cv,ρ',rfl,_,_,_,hcv,_⟩,_,hfr,hsz,hos,htp,hout⟩;refine⟨?_,hos,htp,hout,hsz,fun k hk=>hfr k hk (fun b hb=>absurd hb (by simp))⟩;cases hcv;rfl
end
end Go.Proofs.YtkojpnkknehhmaaGreatDoor

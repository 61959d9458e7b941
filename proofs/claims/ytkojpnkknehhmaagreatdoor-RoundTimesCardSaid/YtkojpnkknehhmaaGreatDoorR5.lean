/- All operations that look at their operands alone. What it is for a state of the evaluator to be one of the machine's frame and world; boxes made and written. -/
import Derived.Test.YtkojpnkknehhmaaGreatDoorR3
namespace Go.Proofs.YtkojpnkknehhmaaGreatDoor
open Go.RowKit
theorem YN {ρ:RO} {μ:Option Lay} {e:Operand->AV} {c:Operand->Value} (hr:RvO ρ μ e c) (l:Array Operand):(l.toList.map e).length=(l.map c).size/\∀j,Rv ρ μ ((l.toList.map e).getD j .undef) ((l.map c).getD j Go.undef):=by
 refine⟨by simp,fun j=>?_⟩;rcases Nat.lt_or_ge j l.size with hj | hj
 ·have h1:(l.toList.map e).getD j .undef=e l[j]:=by simp[List.getD,hj]
  have h2:(l.map c).getD j Go.undef=c l[j]:=by simp[Array.getD,hj]
  rw[h1,h2];exact hr _
 ·rw[yH (by simpa using hj)];exact .undef _ _
theorem UL {ρ:RO} {μ:Option Lay} {e:Operand->AV} {c:Operand->Value} (hr:RvO ρ μ e c) (ps:Array (Nat × Operand)) (qs:List (Nat × Value)) (hq:qs=(ps.map fun (i,x)=>(i,c x)).toList) :
  ((ps.toList.map fun p=>(p.1,e p.2)).length=qs.length) /\
  ∀i (h:i<(ps.toList.map fun p=>(p.1,e p.2)).length) (h':i<qs.length),
   (ps.toList.map fun p=>(p.1,e p.2))[i].1=qs[i].1/\Rv ρ μ (ps.toList.map fun p=>(p.1,e p.2))[i].2 qs[i].2:=by
 subst hq;refine⟨by simp,fun i h h'=>?_⟩;simp only[List.getElem_map,Array.getElem_toList,Array.getElem_map];exact⟨trivial,hr _⟩
theorem P9 {P:Program} {t:TypeId} {ps:Array (Nat × Operand)} {e:Operand->AV} {c:Operand->Value} {ρ:RO} {μ:Option Lay} (hr:RvO ρ μ e c) {v:AV} (h:jC P e (.build t ps)=some v) (w:World) :
  ∃cv,(Instr.build t (ps.map fun (i,x)=>(i,c x))).run P w=.ok cv w/\Rv ρ μ v cv:=by
 obtain ⟨hp1,hp2⟩:=UL hr ps _ rfl;simp only[jC] at h;split at h
 ·rename_i it n el hi hu;split at h
  ·rename_i z ie hz hie;split at h
   ·rename_i hzs;obtain ⟨out,hf,rfl⟩:=Option.map_eq_some_iff.1 h;obtain ⟨hl,hc⟩:=qT hzs (Rv.ofV ρ μ z);obtain ⟨c',hf',hl',hr'⟩:=YA _ _ _ out z.cells hp1 hp2 hl hc hf;exact⟨.agg c',run_build w t _ c' (by simp only[Program.built,hi,hu,hz,hie];exact hf'),.agg μ _ _ hl' hr'⟩
   ·cases h
  ·cases h
 ·rename_i it fs hi hu;split at h
  ·rename_i z places hz hie;split at h
   ·rename_i hzs;obtain ⟨out,hf,rfl⟩:=Option.map_eq_some_iff.1 h;obtain ⟨hl,hc⟩:=qT hzs (Rv.ofV ρ μ z);obtain ⟨c',hf',hl',hr'⟩:=YA _ _ _ out z.cells hp1 hp2 hl hc hf;exact⟨.agg c',run_build w t _ c' (by simp only[Program.built,hi,hu,hz,hie];exact hf'),.agg μ _ _ hl' hr'⟩
   ·cases h
  ·cases h
 ·cases h
theorem TY {P:Program} {ρ:RO} {μ:Option Lay} (w:World) (gt:Bool):∀(l:List AV) (vs:List Value) (x v:AV) (cx:Value),K0 gt x l=some v->Rv ρ μ x cx->l.length=vs.length->(∀j,Rv ρ μ (l.getD j .undef) (vs.getD j Go.undef)) ->
  ∃cv,(vs.foldlM (if gt then Builtin.max2 else Builtin.min2) cx).run P w=.ok cv w/\Rv ρ μ v cv:=by
 intro l;induction l with
 |nil =>
  intro vs x v cx h hx hl hv;cases vs with
  |nil=>cases h;exact⟨cx,rfl,hx⟩
  |cons=>simp at hl
 |cons y r ih =>
  intro vs x v cx h hx hl hv;cases vs with
  |nil=>simp at hl
  |cons cy s =>
   simp only[K0] at h;split at h
   ·rename_i k a l1 k' b l2 h1 h2;have hy:Rv ρ μ y cy:=hv 0;rw[yA h1 hx,yA h2 hy];obtain ⟨cv,hc1,hc2⟩:=ih s _ v (.int k (if gt then (if b>a then b else a) else (if b<a then b else a))) h (Rv.mkI ..) (by simpa using hl) (fun j=>hv (j+1));refine⟨cv,?_,hc2⟩;cases gt
    ·simp only[List.foldlM_cons,Bool.false_eq_true,if_false,Sem.run_bind,Builtin.min2,Sem.run_pure,Result.andThen_ok] at hc1 ⊢;exact hc1
    ·simp only[List.foldlM_cons,if_true,Sem.run_bind,Builtin.max2,Sem.run_pure,Result.andThen_ok] at hc1 ⊢;exact hc1
   ·cases h
theorem QS {P:Program} {s:TypeId} {f:Nat} {x v:AV} {cx:Value} {ρ:RO} {μ:Option Lay} {e:Operand->AV} {y:Operand} (he:e y=x) (hx:Rv ρ μ x cx) (h:jC P e (.fieldAddr s y f)=some v) (w:World) :
  ∃cv,(Instr.fieldAt s cx f).run P w=.ok cv w/\Rv ρ μ v cv:=by
 simp only[jC,he] at h;split at h
 ·rename_i fs hu;split at h
  ·rename_i fd hfd;split at h
   ·cases h
   ·rename_i hc;simp only[not_or] at hc;obtain ⟨hz,hn⟩:=hc;obtain ⟨d,hd⟩:∃d,P.underlying fd.type=some d:=by cases hh:P.underlying fd.type<;>simp_all
    have hrun:∀a:Addr,(Instr.fieldAt s (.pointer (some a)) f).run P w=.ok (.pointer (some (a.add fd.offset))) w:=by
     intro a;simp[Instr.fieldAt,run_underlying hu,hfd,Instr.sureAddr,fieldPlace,yD hd,hz]
    split at h
    ·rename_i b off;cases h;cases hx with
     |ref m =>
      refine⟨_,hrun _,?_⟩;have:(Addr.add ⟨(m b).1,off,none⟩ fd.offset)=⟨(m b).1,off+fd.offset,none⟩:=by
       unfold Addr.add;split<;>simp_all
      rw[this];exact .ref m b _
    ·rename_i cs off;cases h;cases hx with
     |eptr _ _ b o _ c hc hh =>
      refine⟨_,hrun _,?_⟩;have:(Addr.add ⟨b,o+off,none⟩ fd.offset)=⟨b,o+(off+fd.offset),none⟩:=by
       unfold Addr.add;split<;>simp_all [Nat.add_assoc]
      rw[this];exact .eptr _ cs b o _ c hc hh
    ·cases h
  ·cases h
 ·cases h
theorem Sa {P:Program} {e:Operand->AV} {c:Operand->Value} {ρ:RO} {μ:Option Lay} (hr:RvO ρ μ e c) (o:Oper) {v:AV} (h:jC P e o.op=some v) (w:World) :
  ∃cv,(execOp c o).run P w=.ok (.value cv) w/\Rv ρ μ v cv:=by
 obtain ⟨dst,op,type,pos,after,guard⟩:=o;have lift:∀ {s:Sem Value},(∃cv,s.run P w=.ok cv w/\Rv ρ μ v cv)->∃cv,((do pure (.value (<- s)):Sem Next)).run P w=.ok (.value cv) w/\Rv ρ μ v cv:=by
  rintro s ⟨cv,h1,h2⟩;exact⟨cv,by simp[h1],h2⟩
 cases op with
 |move x=>cases h;exact⟨c x,rfl,hr x⟩
 |assign x=>cases h;exact⟨c x,rfl,hr x⟩
 |pick cd a b =>
  simp only[jC] at h;have hcd:=hr cd;simp only[execOp];split at h
  ·rename_i hh;rw[hh] at hcd;cases h;cases hcc:c cd<;>rw[hcc] at hcd<;>cases hcd;exact⟨c a,by simp[asBool],hr a⟩
  ·rename_i hh;rw[hh] at hcd;cases h;cases hcc:c cd<;>rw[hcc] at hcd<;>cases hcd;exact⟨c b,by simp[asBool],hr b⟩
  ·rename_i x hh;rw[hh] at hcd;split at h
   ·rename_i y z hy hz;cases h;have h1:=wj hy (hr a);have h2:=wj hz (hr b);refine⟨.bool (if x then y else z),?_,.bool ..⟩;cases hcc:c cd<;>rw[hcc] at hcd<;>cases hcd;cases x<;>simp[asBool,h1,h2]
   ·cases h
  ·cases h
 |build t ps=>exact lift (P9 hr h w)
 |field t x f =>
  refine lift ?_;simp only[jC] at h;split at h
  ·rename_i fs cs hu hx;split at h
   ·rename_i fd hfd;have hxx:=hr x;rw[hx] at hxx;generalize c x=cx at hxx;cases hxx with
    |agg _ _ vs hl hh =>
     obtain ⟨cv,h1,h2⟩:=kP h hh (by omega) w;exact⟨cv,by simp[Instr.field,run_underlying hu,hfd,asAgg,h1],h2⟩
   ·cases h
  ·cases h
 |extract x i =>
  refine lift ?_;simp only[jC] at h;split at h
  ·rename_i vs hx;have hxx:=hr x;rw[hx] at hxx;generalize c x=cx at hxx;cases hxx with
   |tup _ _ cvs hl hh =>
    obtain ⟨hlt,hv⟩:=List.getElem?_eq_some_iff.1 h;have hlt':i<cvs.size:=by omega
    refine⟨cvs[i],by simp[Instr.extract,hlt'],?_⟩;have:=hh i;simp only[List.getD,h,Option.getD_some,Array.getD,hlt',dif_pos] at this;exact this
  ·cases h
 |makeInterface t x =>
  refine lift ?_;simp only[jC] at h;split at h
  ·cases h
  ·cases h
  ·rename_i u hn hu;cases h;refine⟨.iface t (c x),?_,.iface _ _ _ _ (hr x)⟩;simp only[Instr.makeInterface,Sem.run_bind,run_underlying hu,Result.andThen_ok];try (cases u<;>simp_all)
 |makeFunc fn first caps =>
  refine lift ?_;cases fn with
  |func f =>
   cases h;obtain ⟨h1,h2⟩:=YN hr first;obtain ⟨h3,h4⟩:=YN hr caps;exact⟨_,rfl,.fn _ _ _ _ _ _ h1 h3 h2 h4⟩
  |_=>simp[jC] at h
 |convert s d x =>
  refine lift ?_;simp only[jC] at h;split at h
  ·rename_i us k k' n l hs hd hx;cases h;rw[yA hx (hr x)];exact⟨_,by simp only[convert,Sem.run_bind,run_underlying hs,run_underlying hd,Result.andThen_ok];simp[Conv.intToInt],Rv.mkI ..⟩
  ·cases h
 |unOp op t x =>
  refine lift ?_;cases op with
  |not =>
   simp only[jC] at h;have hx:=hr x;split at h
   ·rename_i hh;rw[hh] at hx;cases h;generalize c x=cx at hx;cases hx;exact⟨_,rfl,.ff _⟩
   ·rename_i hh;rw[hh] at hx;cases h;generalize c x=cx at hx;cases hx;exact⟨_,rfl,.tt _⟩
   ·rename_i b hh;rw[hh] at hx;cases h;generalize c x=cx at hx;cases hx;exact⟨_,rfl,.bool ..⟩
   ·cases h
  |neg =>
   simp only[jC] at h;split at h
   ·rename_i k n l hh;cases h;rw[yA hh (hr x)];exact⟨_,rfl,Rv.mkI ..⟩
   ·cases h
  |xor =>
   simp only[jC] at h;split at h
   ·rename_i k n l hh;cases h;rw[yA hh (hr x)];exact⟨_,rfl,Rv.mkI ..⟩
   ·cases h
  |_=>simp[jC] at h
 |binOp op t x y yt =>
  refine lift ?_;have key:∀op,J6 P op t (qR x || qR y) (e x) (e y)=some v->∃cv,(do eqGuard op t x y (c x) (c y);binOp op t (c x) (c y):Sem Value).run P w=.ok cv w/\Rv ρ μ v cv :=
   fun op h=>Mi h (hr x) (hr y) w
  cases op<;>first | exact key _ h | (simp[jC] at h)
 |nilCheck x =>
  simp only[jC] at h;have hx:=hr x;simp only[execOp];split at h
  ·rename_i b off hh;rw[hh] at hx;cases h;generalize c x=cx at hx ⊢;cases hx with | ref m=>exact⟨_,rfl,.ref m b off⟩
  ·rename_i cs off hh;rw[hh] at hx;cases h;generalize c x=cx at hx ⊢;have hx':=hx;cases hx;exact⟨_,rfl,hx'⟩
  ·rename_i t v hh;rw[hh] at hx;cases h;generalize c x=cx at hx ⊢;have hx':=hx;cases hx;exact⟨_,rfl,hx'⟩
  ·rename_i f a b hh;rw[hh] at hx;cases h;generalize c x=cx at hx ⊢;have hx':=hx;cases hx;exact⟨_,rfl,hx'⟩
  ·cases h
 |fieldAddr s x f=>exact lift (QS rfl (hr x) h w)
 |typeAssert x xt t ok =>
  refine lift ?_;simp only[jC] at h;have hx:=hr x;split at h
  ·cases h
  ·cases h
  ·rename_i u t' v' hn hu hh;rw[hh] at hx;generalize c x=cx at hx;cases hx with
   |iface _ _ _ cv hv =>
    split at h
    ·rename_i ht;subst ht;cases h;cases ok
     ·refine⟨cv,?_,hv⟩;simp only[Instr.typeAssert,Sem.run_bind,run_underlying hu,Result.andThen_ok];cases u<;>simp_all
     ·refine⟨.tuple #[cv,.bool true],?_,.tup _ _ _ (by simp) (fun j=>?_)⟩
      ·simp only[Instr.typeAssert,Sem.run_bind,run_underlying hu,Result.andThen_ok];cases u<;>simp_all
      ·match j with
       |0=>exact hv
       |1=>exact .tt _
       |j+2=>exact .undef _ _
    ·rename_i ht;cases ok
     ·cases h
     ·obtain ⟨z,hz,rfl⟩:=Option.map_eq_some_iff.1 h;obtain ⟨cz,hzr,hzs,rfl⟩:=jF hz w;refine⟨.tuple #[cz,.bool false],?_,.tup _ _ _ (by simp) (fun j=>?_)⟩
      ·simp only[Instr.typeAssert,Sem.run_bind,run_underlying hu,Result.andThen_ok];cases u<;>simp_all
      ·match j with
       |0=>exact Rv.ofV ..
       |1=>exact .ff _
       |j+2=>exact .undef _ _
  ·rename_i u hn hu hh;rw[hh] at hx;generalize c x=cx at hx;cases hx;cases ok
   ·cases h
   ·obtain ⟨z,hz,rfl⟩:=Option.map_eq_some_iff.1 h;obtain ⟨cz,hzr,hzs,rfl⟩:=jF hz w;refine⟨.tuple #[cz,.bool false],?_,.tup _ _ _ (by simp) (fun j=>?_)⟩
    ·simp only[Instr.typeAssert,Sem.run_bind,run_underlying hu,Result.andThen_ok];cases u<;>simp_all
    ·match j with
     |0=>exact Rv.ofV ..
     |1=>exact .ff _
     |j+2=>exact .undef _ _
  ·cases h
 |call cl =>
  obtain ⟨callee,⟨l⟩,ats⟩:=cl;simp only[jC] at h;have bi:∀b,callee=.builtin b->∀(s:Sem Value),(∀consts,builtin b ats type consts ((⟨l⟩:Array Operand).map c)=(do pure (.value (<- s))))->(∃cv,s.run P w=.ok cv w/\Rv ρ μ v cv) ->
    ∃cv,(execOp c ⟨dst,.call ⟨callee,⟨l⟩,ats⟩,type,pos,after,guard⟩).run P w=.ok (.value cv) w/\Rv ρ μ v cv:=by
   rintro b rfl s hs ⟨cv,h1,h2⟩;refine⟨cv,?_,h2⟩;simp only[execOp,resolve,Sem.run_bind,Sem.run_pure,Result.andThen_ok,invoke];rw[hs];simp[h1]
  split at h
  ·rename_i x hx;obtain ⟨a,rfl,rfl⟩:∃a,l=[a]/\e a=x:=by
    cases l with
    |nil=>simp at hx
    |cons a r=>cases r<;>simp_all
   have hv:=hr a;refine bi _ rfl (Builtin.len_ ats type #[c a]) (fun _=>by simp[builtin]) ?_;split at h
   ·rename_i el m es ht hh;obtain ⟨t,ht0,ht⟩:=Option.bind_eq_some_iff.1 ht;rw[hh] at hv;generalize c a=cv at hv ⊢;cases h;have hlen:∃p q,cv=.slice p es.length q:=by cases hv<;>exact⟨_,_,rfl⟩
    obtain ⟨p,q,rfl⟩:=hlen;exact⟨_,by simp[Builtin.len_,ht0,run_underlying ht,goInt],Rv.mkI ..⟩
   ·rename_i el b off len esz ag ht hh;obtain ⟨t,ht0,ht⟩:=Option.bind_eq_some_iff.1 ht;rw[hh] at hv;generalize c a=cv at hv ⊢;cases h;have hlen:∃p q,cv=.slice p len q:=by cases hv<;>exact⟨_,_,rfl⟩
    obtain ⟨p,q,rfl⟩:=hlen;exact⟨_,by simp[Builtin.len_,ht0,run_underlying ht,goInt],.int ..⟩
   ·rename_i s ht hh;obtain ⟨t,ht0,ht⟩:=Option.bind_eq_some_iff.1 ht;rw[hh] at hv;generalize c a=cv at hv ⊢;cases h;cases hv;exact⟨_,by simp[Builtin.len_,ht0,run_underlying ht,goInt],.int ..⟩
   ·rename_i n el ht;obtain ⟨t,ht0,ht⟩:=Option.bind_eq_some_iff.1 ht;cases h;exact⟨_,by simp[Builtin.len_,ht0,run_underlying ht,goInt],.lit ..⟩
   ·cases h
  ·rename_i x r hx;obtain ⟨a,s,rfl,rfl,rfl⟩:∃a s,l=a::s/\e a=x/\s.map e=r:=by
    cases l with
    |nil=>simp at hx
    |cons a s=>exact⟨a,s,by simp_all⟩
   refine bi _ rfl (Builtin.max_ ats type ((⟨a::s⟩:Array Operand).map c)) (fun _=>by simp[builtin]) ?_;obtain ⟨h1,h2⟩:=YN hr ⟨s⟩;obtain ⟨cv,h3,h4⟩:=TY w true (s.map e) (s.map c) _ v _ h (hr a) (by simp) (fun j=>by have:=h2 j;simpa[<- ja] using this);exact⟨cv,by simpa[Builtin.max_] using h3,h4⟩
  ·rename_i x r hx;obtain ⟨a,s,rfl,rfl,rfl⟩:∃a s,l=a::s/\e a=x/\s.map e=r:=by
    cases l with
    |nil=>simp at hx
    |cons a s=>exact⟨a,s,by simp_all⟩
   refine bi _ rfl (Builtin.min_ ats type ((⟨a::s⟩:Array Operand).map c)) (fun _=>by simp[builtin]) ?_;obtain ⟨h1,h2⟩:=YN hr ⟨s⟩;obtain ⟨cv,h3,h4⟩:=TY w false (s.map e) (s.map c) _ v _ h (hr a) (by simp) (fun j=>by have:=h2 j;simpa[<- ja] using this);exact⟨cv,by simpa[Builtin.min_] using h3,h4⟩
  ·cases h
 |_=>simp[jC] at h
def Yt (ρ:RO):List AV->List MapEntry->Prop
 |[],[]=>True
 |x::es,e::E=>(∃k v,x=.agg [k,v]/\jS k=some e.key/\Rv ρ none v e.val)/\Yt ρ es E
 |_,_=>False
theorem Yt.imp {ρ ρ':RO} (h:∀v cv,Rv ρ none v cv->Rv ρ' none v cv):∀ {es:List AV} {E:List MapEntry},Yt ρ es E->Yt ρ' es E
 |[],[],_=>trivial
 |[],_::_,g=>g.elim
 |_::_,[],g=>g.elim
 |_::_,_::_,⟨⟨k,v,h1,h2,h3⟩,g⟩=>⟨⟨k,v,h1,h2,h _ _ h3⟩,g.imp h⟩
def lev (μ:Lay) (x:Bx):Option Lay:=if x.arr then none else some μ
def UD (lv:Option Lay) (cs:List AV):Option (List AV):=match lv with
 |none=>none
 |some _=>ql cs
theorem qD (μ:Lay) (x:Bx):(lev μ x).isSome=!x.arr:=by unfold lev;cases x.arr<;>rfl
theorem uI (μ:Lay) (x:Bx):UD (lev μ x) x.cs=x.mp:=by unfold lev Bx.mp;cases x.arr<;>rfl
theorem uZ {lv:Option Lay} {cs:List AV} (h:ql cs=none):UD lv cs=none:=by cases lv with
 |none=>rfl
 |some μ=>exact h
theorem HJ {x:Bx} (h:ql x.cs=none):x.mp=none:=by unfold Bx.mp;rw[h];exact ite_self _
theorem uH {μ:Lay} {x:Bx} (h:x.arr=true) (cs:List AV):UD (lev μ x) cs=none:=by unfold lev;rw[if_pos h];rfl
theorem OK {lv lv':Option Lay} {cs cs':List AV} (hl:lv'.isSome=lv.isSome) (hm:ql cs'=ql cs):UD lv' cs'=UD lv cs:=by
 cases lv<;>cases lv'<;>first | rfl | exact hm | cases hl
def ub (ρ:RO) (lv:Option Lay) (cs:List AV) (k:Nat) (o:Obj):Prop :=
 match UD lv cs with
 |none=>∃c e,o=.cells c e (0,0)/\c.size=k/\RvC ρ lv cs c
 |some es=>∃E clock,o=.map E clock/\Yt ρ es E.toList
theorem ub.imp {ρ ρ':RO} {lv lv':Option Lay} {cs cs':List AV} {k:Nat} {o:Obj} (hm:ql cs'=ql cs) (h:∀j cv,Rv ρ lv (cs.getD j .undef) cv->Rv ρ' lv' (cs'.getD j .undef) cv) (ho:ub ρ lv cs k o) (hl:lv'.isSome=lv.isSome:=by first | rfl | (simp only[qD];done) | simp[qD, *])
  (hr:∀es,UD lv cs=some es->es≠[]->∀v cv,Rv ρ none v cv->Rv ρ' none v cv:=by first | exact fun _ _ _ _ _ h=>h | exact fun _ _ _ _ _ h=>Rv.mono (by assumption) h | exact fun _ _ _ _ _ h=>Rv.zK (by assumption) h):ub ρ' lv' cs' k o:=by
 unfold ub at ho ⊢;rw[OK hl hm];cases hc:UD lv cs with
 |none =>
  rw[hc] at ho;obtain ⟨c,e,h1,h2,h3⟩:=ho;exact⟨c,e,h1,h2,fun j=>h j _ (h3 j)⟩
 |some es =>
  rw[hc] at ho;obtain ⟨E,clock,h1,h2⟩:=ho;refine⟨E,clock,h1,?_⟩;have key:∀l,Yt ρ [] l->Yt ρ' [] l:=fun l h=>by
   cases l with
   |nil=>trivial
   |cons y ys=>exact h.elim
  by_cases he:es=[]
  ·subst he;exact key _ h2
  ·exact h2.imp (hr es hc he)
theorem ub.cells {ρ:RO} {lv:Option Lay} {cs:List AV} {k:Nat} {c:Array Value} {e:TypeId} (hm:UD lv cs=none) (hsz:c.size=k) (h:RvC ρ lv cs c):ub ρ lv cs k (.cells c e (0,0)):=by
 unfold ub;rw[hm];exact⟨c,e,rfl,hsz,h⟩
theorem ub.get {ρ:RO} {lv:Option Lay} {cs:List AV} {k:Nat} {o:Obj} (hm:UD lv cs=none) (h:ub ρ lv cs k o):∃c e,o=.cells c e (0,0)/\c.size=k/\RvC ρ lv cs c:=by
 unfold ub at h;rw[hm] at h;exact h
theorem UB (x:AV):kH x.norm=kH x:=by
 cases x with
 |iface t v=>cases v<;>simp only[AV.norm,kH]
 |_=>simp only[AV.norm,kH]
theorem vk (cs:List AV):ql (AV.zb cs)=ql cs:=by
 match cs with
 |[]=>rfl
 |[x]=>simp only[AV.zb,ql];exact UB x
 |x::y::r=>simp only[AV.zb];rfl
theorem XT (f:Nat->Option Nat) (x:AV):kH (x.zj f)=kH x:=by
 cases x with
 |iface t v=>cases v<;>simp only[AV.zj]<;>(try split)<;>simp only[kH]
 |ref b o=>simp only[AV.zj];split<;>simp only[kH]
 |aslc b o l z g=>simp only[AV.zj];split<;>simp only[kH]
 |map b=>simp only[AV.zj];split<;>simp only[kH]
 |_=>simp only[AV.zj,kH]
theorem vl (f:Nat->Option Nat) (cs:List AV):ql (AV.zh f cs)=ql cs:=by
 match cs with
 |[]=>rfl
 |[x]=>simp only[AV.zh,ql];exact XT f x
 |x::y::r=>simp only[AV.zh];rfl
theorem XU {cs es:List AV} (h:ql cs=some es):∃m,cs=[.iface 1000000 (.slc m es)]:=by
 match cs with
 |[]=>cases h
 |x::y::r=>cases h
 |[x] =>
  simp only[ql] at h;cases x with
  |iface t v =>
   cases v with
   |slc m es' =>
    simp only[kH] at h;split at h
    ·rename_i ht;cases h;exact⟨m,by rw[ht]⟩
    ·cases h
   |_=>cases h
  |_=>cases h
theorem TV {cs cs':List AV} (h:vh cs cs'=true) (hs:∀m es,cs=[.iface 1000000 (.slc m es)]->ql cs'=some es):ql cs'=ql cs:=by
 unfold vh at h;cases hc:ql cs with
 |none =>
  rw[hc] at h;simpa using h
 |some es =>
  obtain ⟨m,he⟩:=XU hc;exact hs m es he
structure vQ (ρ:RO) (lv:Option Lay) (μ:Lay) (w:World) (b:Nat) (cs:List AV):Prop where
 len:cs.length<=(μ b).2
 blk:(μ b).2=0\/∃o,w.heap[(μ b).1]? = some o/\ub ρ lv cs (μ b).2 o
structure qH (B:Nat) (w w':World):Prop where
 os:w'.os=w.os
 tape:w'.tape=w.tape
 output:w'.output=w.output
 size:w.heap.size<=w'.heap.size
 block:∀k,k≠B->w'.heap[k]? = w.heap[k]?
def Tq (ρ0 ρ:RO) (w0:World) (ds:List Deferred):Prop :=
 ∃Ds:List Nat,ds=Ds.map (fun D=>{ target:=.collected D,args:=#[] })/\Ds.Nodup/\∀D∈Ds,ρ D=some (.deferred (some []))/\ρ0 D=none/\w0.heap.size<=D
theorem Tq.nil (ρ0 ρ:RO) (w0:World):Tq ρ0 ρ w0 []:=⟨[],rfl,.nil,by simp⟩
theorem Tq.mono {ρ0 ρ ρ':RO} {w0:World} {ds:List Deferred} (h:Tq ρ0 ρ w0 ds) (hle:ρ.le ρ'):Tq ρ0 ρ' w0 ds:=by
 obtain ⟨Ds,h1,h2,h3⟩:=h;exact⟨Ds,h1,h2,fun D hD=>⟨hle _ _ (h3 D hD).1,(h3 D hD).2⟩⟩
def Own (n:Nat) (μ0:Lay) (w0:World) (k:Nat):Prop:=w0.heap.size<=k\/∃c,c<n/\(μ0 c).2≠0/\k=(μ0 c).1
structure Sat (ds:List Deferred) (n:Nat) (μ0:Lay) (ρ0:RO) (w0:World) (ρ:RO) (μ:Lay) (σ:St) (a:Act) (w:World):Prop where
 gl:kJ ρ0
 dfe:a.defers=ds
 defs:Tq ρ0 ρ w0 ds
 sz:σ.sl.length=a.tmps.size
 sl:∀t,Rv ρ (some μ) (σ.sl.getD t .undef) (a.tmps.getD t Go.undef)
 box:∀b x,σ.bx.getD b none=some x->vQ ρ (lev μ x) μ w b x.cs
 inj:∀b b' cs cs',σ.box b=some cs->σ.box b'=some cs'->b≠b'->(μ b).2≠0->(μ b').2≠0->(μ b).1≠(μ b').1
 sep:∀b cs,σ.box b=some cs->(μ b).2≠0->ρ (μ b).1=none
 own:∀b cs,σ.box b=some cs->(μ b).2≠0->n<=b->Own n μ0 w0 (μ b).1
 inc:∀b,b<n->μ b=μ0 b
 ro:∀k o,ρ k=some o->w.heap[k]? = some o
 le:ρ0.le ρ
 new:∀k o,ρ k=some o->ρ0 k=none->Own n μ0 w0 k
 frame:∀k,k<w0.heap.size->(∀b,b<n->(μ0 b).2≠0->k≠(μ0 b).1)->w.heap[k]? = w0.heap[k]?
 size:w0.heap.size<=w.heap.size
 os:w.os=w0.os
 tape:w.tape=w0.tape
 output:w.output=w0.output
section
variable {ds:List Deferred} {n:Nat} {μ0:Lay} {ρ0:RO} {w0:World} {ρ:RO} {μ:Lay} {σ:St} {a:Act} {w:World}
theorem qm {l:List AV} {d t:Nat} {v:AV}:(l.set d v).getD t .undef=if t=d/\d<l.length then v else l.getD t .undef:=by
 by_cases h:t=d
 ·subst h;by_cases hl:t<l.length
  ·simp[List.getD,hl]
  ·simp[List.getD,hl]
 ·simp[List.getD,h,List.getElem?_set_ne (Ne.symm h)]
theorem jW {l:Array Value} {d t:Nat} {v:Value}:(l.setIfInBounds d v).getD t Go.undef=if t=d/\d<l.size then v else l.getD t Go.undef:=by
 by_cases h:t=d
 ·subst h;by_cases hl:t<l.size
  ·simp[Array.getD,hl]
  ·simp[Array.getD,hl]
 ·simp only[h,false_and,if_false,Array.getD,Array.size_setIfInBounds];by_cases hs:t<l.size
  ·simp[hs,Ne.symm h]
  ·simp[hs]
theorem Sat.put (hs:Sat ds n μ0 ρ0 w0 ρ μ σ a w) {d:Option Nat} {v:AV} {cv:Value} (hv:Rv ρ (some μ) v cv):Sat ds n μ0 ρ0 w0 ρ μ (σ.put d v) (a.put d cv) w:=by
 cases d with
 |none=>exact hs
 |some d =>
  exact { hs with
   sz:=by simp[St.put,Act.put,hs.sz]
   sl:=fun t=>by
    simp only[St.put,Act.put];rw[qm,jW,hs.sz];split
    ·exact hv
    ·exact hs.sl t }
theorem Sat.eval (hs:Sat ds n μ0 ρ0 w0 ρ μ σ a w) (x:Operand):Rv ρ (some μ) (ev σ x) (a.eval x):=by
 cases x with
 |tmp t=>exact hs.sl t
 |const v=>exact Rv.ofV ..
 |global g =>
  simp only[ev];split
  ·rename_i cs hg;exact(hs.gl.mono hs.le).rv hg _
  ·exact .undef ..
 |func f=>exact .fn _ _ _ _ #[] #[] rfl rfl (fun j=>.undef ..) (fun j=>.undef ..)
theorem Sat.drew (hs:Sat ds n μ0 ρ0 w0 ρ μ σ a w):Sat ds n μ0 ρ0 w0 ρ μ σ a w.drew :=
 {hs with box:=fun b cs h=>⟨(hs.box b cs h).len,(hs.box b cs h).blk⟩ }
theorem Sat.drawn (hs:Sat ds n μ0 ρ0 w0 ρ μ σ a w) (k:Nat):Sat ds n μ0 ρ0 w0 ρ μ σ a { w with drawn:=k } :=
 {hs with box:=fun b cs h=>⟨(hs.box b cs h).len,(hs.box b cs h).blk⟩ }
theorem yT {l:List AV} {b j:Nat} (h:b∈(l.getD j .undef).refs):b∈AV.zd l:=by
 induction l generalizing j with
 |nil=>simp[AV.refs] at h
 |cons x r ih =>
  simp only[AV.zd,List.mem_append];cases j with
  |zero=>exact .inl h
  |succ j=>exact .inr (ih (by simpa using h))
theorem Rv.lay {ρ:RO} {μ μ':Lay} {v:AV} {cv:Value} (hv:Rv ρ (some μ) v cv) (h:∀b∈v.refs,μ' b=μ b):Rv ρ (some μ') v cv:=by
 generalize hn:some μ=o at hv;induction hv with
 |undef _ v=>exact .undef _ v
 |tt _=>exact .tt _
 |ff _=>exact .ff _
 |bool _ b=>exact .bool _ b
 |lit _ k n=>exact .lit _ k n
 |int _ k n=>exact .int _ k n
 |str _ s=>exact .str _ s
 |nilp _=>exact .nilp _
 |eptr _ cs b o off c hc _ ih=>exact .eptr _ cs b o off c hc (fun j=>ih j (fun b hb=>h b (by simp only[AV.refs];exact yT hb)) hn)
 |ref m b off=>cases hn;rw[<- h b (by simp[AV.refs])];exact .ref μ' b off
 |nilslc _ m=>exact .nilslc _ m
 |eslc _ m a hm=>exact .eslc _ m a hm
 |slc _ m es b o cap k c hm hcap h2 hk hc hh _=>exact .slc _ m es b o cap k c hm hcap h2 hk hc hh
 |aslc m b off len esz ag cap hcap hr =>
  cases hn;have hb:=h b (by simp[AV.refs]);rw[<- hb] at hr ⊢;exact .aslc μ' b off len esz ag cap hcap hr
 |aslc0 m b esz ag a=>exact .aslc0 μ' b esz ag a
 |fn _ g first caps vf vc hf' hc _ _ ih1 ih2 =>
  exact .fn _ g _ _ vf vc hf' hc (fun j=>ih1 j (fun b hb=>h b (by simp[AV.refs,yT hb])) hn) (fun j=>ih2 j (fun b hb=>h b (by simp[AV.refs,yT hb])) hn)
 |nilfn _=>exact .nilfn _
 |iface _ t v v' _ ih=>exact .iface _ t _ v' (ih (fun b hb=>h b (by simpa[AV.refs] using hb)) hn)
 |nilif _=>exact .nilif _
 |agg _ cs vs hl _ ih=>exact .agg _ _ vs hl (fun j=>ih j (fun b hb=>h b (by simp[AV.refs,yT hb])) hn)
 |tup _ cs vs hl _ ih=>exact .tup _ _ vs hl (fun j=>ih j (fun b hb=>h b (by simp[AV.refs,yT hb])) hn)
 |map m b=>cases hn;rw[<- h b (by simp[AV.refs])];exact .map μ' b
 |nilmap _=>exact .nilmap _
 |yld _ l=>exact .yld _ l
def vt (μ:Lay) (b:Nat) (x:Nat × Nat):Lay:=fun i=>if i=b then x else μ i
theorem Rv.zk {ρ:RO} {μ:Lay} {v:AV} {cv:Value} (hv:Rv ρ (some μ) v cv) {b:Nat} (h:b∉v.refs) (x:Nat × Nat):Rv ρ (some (vt μ b x)) v cv :=
 hv.lay fun i hi=>by unfold vt;rw[if_neg];rintro rfl;exact h hi
theorem Rv.zm {ρ:RO} {μ:Lay} {x:Bx} {v:AV} {cv:Value} (hv:Rv ρ (lev μ x) v cv):Rv ρ (some μ) v cv:=by
 unfold lev at hv;split at hv
 ·exact hv.any _
 ·exact hv
theorem Rv.zJ {ρ:RO} {μ:Lay} {x:Bx} {v:AV} {cv:Value} (hv:Rv ρ (lev μ x) v cv) {b:Nat} (h:x.arr=false->b∉v.refs) (y:Nat × Nat):Rv ρ (lev (vt μ b y) x) v cv:=by
 unfold lev at hv ⊢;split at hv
 ·rename_i hx;rw[if_pos hx];exact hv
 ·rename_i hx;rw[if_neg hx];exact hv.zk (h (by simpa using hx)) y
theorem yK {σ:St} {b:Nat} {cs:List AV} (h:σ.box b=some cs):∃x,σ.bx.getD b none=some x/\x.cs=cs:=by
 unfold St.box at h;exact Option.map_eq_some_iff.1 h
theorem yi {σ:St} {b:Nat} {x:Bx} (h:σ.bx.getD b none=some x):σ.box b=some x.cs:=by simp only[St.box,h,Option.map_some]
theorem qo {bx:List (Option Bx)} {b i:Nat} {x:Option Bx}:(bx.set b x).getD i none=if i=b/\b<bx.length then x else bx.getD i none:=by
 by_cases h:i=b
 ·subst h;by_cases hl:i<bx.length
  ·simp[List.getD,hl]
  ·simp[List.getD,hl]
 ·simp[List.getD,h,List.getElem?_set_ne (Ne.symm h)]
theorem T6 {b:Nat} {σ:St} (h:vL b σ=true) (t:Nat):b∉(σ.sl.getD t .undef).refs:=by
 intro hb;simp only[vL,Bool.and_eq_true,Bool.not_eq_true',List.contains_eq_mem,decide_eq_false_iff_not] at h;exact h.1 (yT hb)
theorem T5 {b:Nat} {σ:St} (h:vL b σ=true) {i:Nat} {x:Bx} (hx:σ.bx.getD i none=some x):b∉x.refs:=by
 simp only[vL,Bool.and_eq_true] at h;have hmem:some x∈σ.bx:=by
  simp only[List.getD] at hx;cases hg:σ.bx[i]? with
  |none=>simp[hg] at hx
  |some y =>
   simp only[hg,Option.getD_some] at hx;subst hx;exact List.mem_of_getElem? hg
 have:=List.all_eq_true.1 h.2 _ hmem;simpa using this
theorem Pq {x:Bx} (ha:x.arr=false) {b j:Nat} (h:b∈(x.cs.getD j .undef).refs):b∈x.refs:=by
 unfold Bx.refs;rw[ha];exact yT h
theorem Sat.zt (hs:Sat ds n μ0 ρ0 w0 ρ μ σ a w) {d:Nat} {x:Bx} {p:AV} {cp:Value} {w':World} {B κ:Nat} {o:Obj}
  (hno:vL (n+d) { sl:=σ.sl.set d .undef,bx:=σ.bx.set (n+d) none }=true) (hx:n+d∉x.refs) (hd:d<σ.sl.length) (hdb:n+d<σ.bx.length)
  (hw:qH B w w') (hB:κ=0\/(w'.heap[B]? = some o/\ub ρ (lev μ x) x.cs κ o)) (hl:x.cs.length<=κ)
  (hfree:∀b cs,b≠n+d->σ.box b=some cs->(μ b).2≠0->(μ b).1≠B) (hro:ρ B=none) (hown:Own n μ0 w0 B)
  (hp:Rv ρ (some (vt μ (n+d) (B,κ))) p cp) :
  Sat ds n μ0 ρ0 w0 ρ (vt μ (n+d) (B,κ)) { sl:=σ.sl.set d p,bx:=σ.bx.set (n+d) (some x) } (a.put (some d) cp) w':=by
 have hbox:∀b cs,({ sl:=σ.sl.set d p,bx:=σ.bx.set (n+d) (some x) }:St).box b=some cs->(b=n+d/\cs=x.cs)\/(b≠n+d/\σ.box b=some cs):=by
  intro b cs h;simp only[St.box] at h;rw[qo] at h;by_cases hb:b=n+d
  ·rw[if_pos ⟨hb,hdb⟩] at h;exact .inl ⟨hb,by simpa using h.symm⟩
  ·rw[if_neg (fun h=>hb h.1)] at h;exact .inr ⟨hb,h⟩
 have hold:∀b y,b≠n+d->σ.bx.getD b none=some y->({ sl:=σ.sl.set d .undef,bx:=σ.bx.set (n+d) none }:St).bx.getD b none=some y:=by
  intro b y hb h;rw[qo,if_neg (fun h=>hb h.1)];exact h
 have hupd:∀b,b≠n+d->vt μ (n+d) (B,κ) b=μ b:=fun b hb=>by simp[vt,hb]
 have hupe:vt μ (n+d) (B,κ) (n+d)=(B,κ):=by simp[vt]
 refine { gl:=hs.gl,dfe:=hs.dfe,defs:=hs.defs,sz:=?_,sl:=?_,box:=?_,inj:=?_,sep:=?_,own:=?_,inc:=?_,ro:=?_,le:=hs.le,new:=hs.new,frame:=?_,size:=Nat.le_trans hs.size hw.size,os:=hw.os.trans hs.os,tape:=hw.tape.trans hs.tape,output:=hw.output.trans hs.output }
 ·simp[Act.put,hs.sz]
 ·intro t;simp only[Act.put];rw[qm,jW,hs.sz];by_cases ht:t=d
  ·rw[if_pos ⟨ht,by rw[<- hs.sz];exact hd⟩,if_pos ⟨ht,by rw[<- hs.sz];exact hd⟩];exact hp
  ·rw[if_neg (fun h=>ht h.1),if_neg (fun h=>ht h.1)];have:=T6 hno t;simp only[qm,ht,false_and,if_false] at this;exact(hs.sl t).zk this _
 ·intro b y h;simp only[qo] at h;by_cases hb:b=n+d
  ·rw[if_pos ⟨hb,hdb⟩] at h;cases h;subst hb;refine⟨by rw[hupe];exact hl,?_⟩;rw[hupe];rcases hB with h0 | ⟨h1,h3⟩
   ·exact .inl h0
   ·exact .inr ⟨o,h1,h3.imp rfl fun j cv hj=>hj.zJ (fun ha hm=>hx (Pq ha hm)) _⟩
  ·rw[if_neg (fun h=>hb h.1)] at h;obtain ⟨h1,h2⟩:=hs.box b y h;refine⟨by rw[hupd b hb];exact h1,?_⟩;rw[hupd b hb];rcases h2 with h2 | ⟨o',h3,h5⟩
   ·exact .inl h2
   ·by_cases hk:(μ b).2=0
    ·exact .inl hk
    ·refine .inr ⟨o',?_,h5.imp rfl fun j cv hj=>hj.zJ (fun ha hm=>T5 hno (hold b _ hb h) (Pq ha hm)) _⟩;rw[hw.block _ (hfree b _ hb (yi h) hk)];exact h3
 ·intro b b' cs cs' h h' hne hk hk';rcases hbox b cs h with ⟨rfl,rfl⟩ | ⟨hb,h⟩<;>rcases hbox b' cs' h' with ⟨rfl,rfl⟩ | ⟨hb',h'⟩
  ·exact absurd rfl hne
  ·rw[hupe,hupd b' hb'] at *;exact fun he=>hfree b' cs' hb' h' hk' he.symm
  ·rw[hupe,hupd b hb] at *;exact hfree b cs hb h hk
  ·rw[hupd b hb,hupd b' hb'] at *;exact hs.inj b b' cs cs' h h' hne hk hk'
 ·intro b cs h hk;rcases hbox b cs h with ⟨rfl,rfl⟩ | ⟨hb,h⟩
  ·rw[hupe];exact hro
  ·rw[hupd b hb] at *;exact hs.sep b cs h hk
 ·intro b cs h hk hn;rcases hbox b cs h with ⟨rfl,rfl⟩ | ⟨hb,h⟩
  ·rw[hupe];exact hown
  ·rw[hupd b hb] at *;exact hs.own b cs h hk hn
 ·intro b hb;rw[hupd b (by omega)];exact hs.inc b hb
 ·intro k o hk;rw[hw.block k (by rintro rfl;rw[hro] at hk;cases hk)];exact hs.ro k o hk
 ·intro k hk hb;rw[hw.block k (by
   rintro rfl;rcases hown with h | ⟨c,hc,h0,he⟩
   ·omega
   ·exact hb c hc h0 he)];exact hs.frame k hk hb
theorem qH.alloc (w:World) (o:Obj):qH w.heap.size w (w.alloc o) :=
 ⟨rfl,rfl,rfl,by simp,fun k hk=>by
  show (w.heap.push o)[k]? = w.heap[k]?;rw[Array.getElem?_push,if_neg hk]⟩
theorem qH.drawn {B:Nat} {w w':World} (h:qH B w w') (k:Nat):qH B { w with drawn:=k } w':=⟨h.os,h.tape,h.output,h.size,h.block⟩
theorem qH.refl (B:Nat) (w:World):qH B w w:=⟨rfl,rfl,rfl,Nat.le_refl _,fun _ _=>rfl⟩
theorem Sat.zT (hs:Sat ds n μ0 ρ0 w0 ρ μ σ a w) {b:Nat} {cs:List AV} (h:σ.box b=some cs) (hk:(μ b).2≠0):Own n μ0 w0 (μ b).1:=by
 rcases Nat.lt_or_ge b n with hb | hb
 ·exact .inr ⟨b,hb,by rw[<- hs.inc b hb];exact hk,by rw[hs.inc b hb]⟩
 ·exact hs.own b cs h hk hb
theorem Sat.alloc (hs:Sat ds n μ0 ρ0 w0 ρ μ σ a w) {d:Nat} {x:Bx} {p:AV} {cp:Value} {c:Array Value} {e:TypeId} {K:St->Prop}
  (h:qV n d x p σ K) (hl:x.cs.length<=c.size) (hc:RvC ρ (lev μ x) x.cs c)
  (hp:∀μ':Lay,μ' (n+d)=(w.heap.size,c.size)->Rv ρ (some μ') p cp) :
  ∃μ' σ',Sat ds n μ0 ρ0 w0 ρ μ' σ' (a.put (some d) cp) (w.alloc (.cells c e))/\K σ':=by
 unfold qV at h;split at h
 ·rename_i hh;simp only[Bool.and_eq_true,Bool.not_eq_true',List.contains_eq_mem,decide_eq_false_iff_not,decide_eq_true_eq] at hh;obtain ⟨⟨⟨⟨h0,h1⟩,h2⟩,h3⟩,h4⟩:=hh;refine⟨_,_,hs.zt (o:=.cells c e (0,0)) h1 h2 h3 h4 (qH.alloc w _) (.inr ⟨Array.getElem?_push_size,.cells (by rw[uI];simpa using h0) rfl hc⟩) hl ?_ ?_ (.inl hs.size) (hp _ (by simp[vt])),h⟩
  ·intro b cs _ hb hk he;obtain ⟨y,hy,rfl⟩:=yK hb;rcases (hs.box b y hy).blk with h0 | ⟨o',h1,_⟩
   ·exact hk h0
   ·rw[he] at h1;rw[Array.getElem?_eq_none (Nat.le_refl _)] at h1;cases h1
  ·cases hr:ρ w.heap.size with
   |none=>rfl
   |some o =>
    have:=hs.ro _ _ hr;rw[Array.getElem?_eq_none (Nat.le_refl _)] at this;cases this
 ·exact h.elim
end
end Go.Proofs.YtkojpnkknehhmaaGreatDoor

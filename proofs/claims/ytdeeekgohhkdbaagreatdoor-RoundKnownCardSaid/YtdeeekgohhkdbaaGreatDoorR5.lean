/- All operations that look at their operands alone. -/
import Derived.Test.YtdeeekgohhkdbaaGreatDoorR3
namespace Go.Proofs.YtdeeekgohhkdbaaGreatDoor
open Go.RowKit
theorem Y4 {ρ:RO} {E:Option Lay} {e:Operand->AV} {c:Operand->Value} (hr:RvO ρ E e c) (l:Array Operand):(l.toList.map e).length=(l.map c).size/\∀j,Rv ρ E ((l.toList.map e).getD j .undef) ((l.map c).getD j Go.undef):=by
 refine⟨by simp,fun j=>?_⟩;rcases Nat.lt_or_ge j l.size with hj | hj
 ·have h1:(l.toList.map e).getD j .undef=e l[j]:=by simp[List.getD,hj]
  have h2:(l.map c).getD j Go.undef=c l[j]:=by simp[Array.getD,hj]
  rw[h1,h2];exact hr _
 ·rw[yO (by simpa using hj)];exact .undef _ _
theorem Tc {ρ:RO} {E:Option Lay} {e:Operand->AV} {c:Operand->Value} (hr:RvO ρ E e c) (ps:Array (Nat × Operand)) (qs:List (Nat × Value)) (hq:qs=(ps.map fun (i,x)=>(i,c x)).toList) :
  ((ps.toList.map fun p=>(p.1,e p.2)).length=qs.length) /\
  ∀i (h:i<(ps.toList.map fun p=>(p.1,e p.2)).length) (h':i<qs.length),
   (ps.toList.map fun p=>(p.1,e p.2))[i].1=qs[i].1/\Rv ρ E (ps.toList.map fun p=>(p.1,e p.2))[i].2 qs[i].2:=by
 subst hq;refine⟨by simp,fun i h h'=>?_⟩;simp only[List.getElem_map,Array.getElem_toList,Array.getElem_map];exact⟨trivial,hr _⟩
theorem OO {P:Program} {t:TypeId} {ps:Array (Nat × Operand)} {e:Operand->AV} {c:Operand->Value} {ρ:RO} {E:Option Lay} (hr:RvO ρ E e c) {v:AV} (h:jz P e (.build t ps)=some v) (w:World) :
  ∃cv,(Instr.build t (ps.map fun (i,x)=>(i,c x))).run P w=.ok cv w/\Rv ρ E v cv:=by
 obtain ⟨hp1,hp2⟩:=Tc hr ps _ rfl;simp only[jz] at h;split at h
 ·rename_i it n el hi hu;split at h
  ·rename_i z ie hz hie;split at h
   ·rename_i hzs;obtain ⟨out,hf,rfl⟩:=Option.map_eq_some_iff.1 h;obtain ⟨hl,hc⟩:=jc hzs (Rv.ofV ρ E z);obtain ⟨c',hf',hl',hr'⟩:=YM _ _ _ out z.cells hp1 hp2 hl hc hf;exact⟨.agg c',run_build w t _ c' (by simp only[Program.built,hi,hu,hz,hie];exact hf'),.agg E _ _ hl' hr'⟩
   ·cases h
  ·cases h
 ·rename_i it fs hi hu;split at h
  ·rename_i z places hz hie;split at h
   ·rename_i hzs;obtain ⟨out,hf,rfl⟩:=Option.map_eq_some_iff.1 h;obtain ⟨hl,hc⟩:=jc hzs (Rv.ofV ρ E z);obtain ⟨c',hf',hl',hr'⟩:=YM _ _ _ out z.cells hp1 hp2 hl hc hf;exact⟨.agg c',run_build w t _ c' (by simp only[Program.built,hi,hu,hz,hie];exact hf'),.agg E _ _ hl' hr'⟩
   ·cases h
  ·cases h
 ·cases h
theorem Sz {P:Program} {ρ:RO} {E:Option Lay} (w:World) (gt:Bool):∀(l:List AV) (vs:List Value) (x v:AV) (cx:Value),JD gt x l=some v->Rv ρ E x cx->l.length=vs.length->(∀j,Rv ρ E (l.getD j .undef) (vs.getD j Go.undef)) ->
  ∃cv,(vs.foldlM (if gt then Builtin.max2 else Builtin.min2) cx).run P w=.ok cv w/\Rv ρ E v cv:=by
 intro l;induction l with
 |nil =>
  intro vs x v cx h hx hl hv;cases vs with
  |nil=>cases h;exact⟨cx,rfl,hx⟩
  |cons=>simp at hl
 |cons y r ih =>
  intro vs x v cx h hx hl hv;cases vs with
  |nil=>simp at hl
  |cons cy s =>
   simp only[JD] at h;split at h
   ·rename_i k a l1 k' b l2 h1 h2;have hy:Rv ρ E y cy:=hv 0;rw[yM h1 hx,yM h2 hy];obtain ⟨cv,hc1,hc2⟩:=ih s _ v (.int k (if gt then (if b>a then b else a) else (if b<a then b else a))) h (Rv.mkI ..) (by simpa using hl) (fun j=>hv (j+1));refine⟨cv,?_,hc2⟩;cases gt
    ·simp only[List.foldlM_cons,Bool.false_eq_true,if_false,Sem.run_bind,Builtin.min2,Sem.run_pure,Result.andThen_ok] at hc1 ⊢;exact hc1
    ·simp only[List.foldlM_cons,if_true,Sem.run_bind,Builtin.max2,Sem.run_pure,Result.andThen_ok] at hc1 ⊢;exact hc1
   ·cases h
theorem Pl {P:Program} {s:TypeId} {f:Nat} {x v:AV} {cx:Value} {ρ:RO} {E:Option Lay} {e:Operand->AV} {y:Operand} (he:e y=x) (hx:Rv ρ E x cx) (h:jz P e (.fieldAddr s y f)=some v) (w:World) :
  ∃cv,(Instr.fieldAt s cx f).run P w=.ok cv w/\Rv ρ E v cv:=by
 simp only[jz,he] at h;split at h
 ·rename_i fs hu;split at h
  ·rename_i fd hfd;split at h
   ·cases h
   ·rename_i hc;simp only[not_or] at hc;obtain ⟨hz,hn⟩:=hc;obtain ⟨d,hd⟩:∃d,P.underlying fd.type=some d:=by cases hh:P.underlying fd.type<;>simp_all
    have hrun:∀a:Addr,(Instr.fieldAt s (.pointer (some a)) f).run P w=.ok (.pointer (some (a.add fd.offset))) w:=by
     intro a;simp[Instr.fieldAt,run_underlying hu,hfd,Instr.sureAddr,fieldPlace,yF hd,hz]
    split at h
    ·rename_i b off;cases h;cases hx with
     |ref m =>
      refine⟨_,hrun _,?_⟩;have:(Addr.add ⟨(m b).1,off,none⟩ fd.offset)=⟨(m b).1,off+fd.offset,none⟩:=by
       unfold Addr.add;split<;>simp_all
      rw[this];exact .ref m b _
    ·rename_i cs off;cases h;cases hx with
     |eptr _ _ b o _ c hc hh =>
      refine⟨_,hrun _,?_⟩;have:(Addr.add ⟨b,o+off,none⟩ fd.offset)=⟨b,o+(off+fd.offset),none⟩:=by
       unfold Addr.add;split<;>simp_all [Nat.add_assoc]
      rw[this];exact .eptr _ cs b o _ c hc hh
    ·cases h
  ·cases h
 ·cases h
theorem vv {P:Program} {e:Operand->AV} {c:Operand->Value} {ρ:RO} {E:Option Lay} (hr:RvO ρ E e c) (o:Oper) {v:AV} (h:jz P e o.op=some v) (w:World) :
  ∃cv,(execOp c o).run P w=.ok (.value cv) w/\Rv ρ E v cv:=by
 obtain ⟨dst,op,type,pos,after,guard⟩:=o;have lift:∀ {s:Sem Value},(∃cv,s.run P w=.ok cv w/\Rv ρ E v cv)->∃cv,((do pure (.value (<- s)):Sem Next)).run P w=.ok (.value cv) w/\Rv ρ E v cv:=by
  rintro s ⟨cv,h1,h2⟩;exact⟨cv,by simp[h1],h2⟩
 cases op with
 |move x=>cases h;exact⟨c x,rfl,hr x⟩
 |assign x=>cases h;exact⟨c x,rfl,hr x⟩
 |pick cd a b =>
  simp only[jz] at h;have hcd:=hr cd;simp only[execOp];split at h
  ·rename_i hh;rw[hh] at hcd;cases h;cases hcc:c cd<;>rw[hcc] at hcd<;>cases hcd;exact⟨c a,by simp[asBool],hr a⟩
  ·rename_i hh;rw[hh] at hcd;cases h;cases hcc:c cd<;>rw[hcc] at hcd<;>cases hcd;exact⟨c b,by simp[asBool],hr b⟩
  ·rename_i x hh;rw[hh] at hcd;split at h
   ·rename_i y z hy hz;cases h;have h1:=wD hy (hr a);have h2:=wD hz (hr b);refine⟨.bool (if x then y else z),?_,.bool ..⟩;cases hcc:c cd<;>rw[hcc] at hcd<;>cases hcd;cases x<;>simp[asBool,h1,h2]
   ·cases h
  ·cases h
 |build t ps=>exact lift (OO hr h w)
 |field t x f =>
  refine lift ?_;simp only[jz] at h;split at h
  ·rename_i fs cs hu hx;split at h
   ·rename_i fd hfd;have hxx:=hr x;rw[hx] at hxx;generalize c x=cx at hxx;cases hxx with
    |agg _ _ vs hl hh =>
     obtain ⟨cv,h1,h2⟩:=wb h hh (by omega) w;exact⟨cv,by simp[Instr.field,run_underlying hu,hfd,asAgg,h1],h2⟩
   ·cases h
  ·cases h
 |extract x i =>
  refine lift ?_;simp only[jz] at h;split at h
  ·rename_i vs hx;have hxx:=hr x;rw[hx] at hxx;generalize c x=cx at hxx;cases hxx with
   |tup _ _ cvs hl hh =>
    obtain ⟨hlt,hv⟩:=List.getElem?_eq_some_iff.1 h;have hlt':i<cvs.size:=by omega
    refine⟨cvs[i],by simp[Instr.extract,hlt'],?_⟩;have:=hh i;simp only[List.getD,h,Option.getD_some,Array.getD,hlt',dif_pos] at this;exact this
  ·cases h
 |makeInterface t x =>
  refine lift ?_;simp only[jz] at h;split at h
  ·cases h
  ·cases h
  ·rename_i u hn hu;cases h;refine⟨.iface t (c x),?_,.iface _ _ _ _ (hr x)⟩;simp only[Instr.makeInterface,Sem.run_bind,run_underlying hu,Result.andThen_ok];try (cases u<;>simp_all)
 |makeFunc fn first caps =>
  refine lift ?_;cases fn with
  |func f =>
   cases h;obtain ⟨h1,h2⟩:=Y4 hr first;obtain ⟨h3,h4⟩:=Y4 hr caps;exact⟨_,rfl,.fn _ _ _ _ _ _ h1 h3 h2 h4⟩
  |_=>simp[jz] at h
 |convert s d x =>
  refine lift ?_;simp only[jz] at h;split at h
  ·rename_i us k k' n l hs hd hx;cases h;rw[yM hx (hr x)];exact⟨_,by simp only[convert,Sem.run_bind,run_underlying hs,run_underlying hd,Result.andThen_ok];simp[Conv.intToInt],Rv.mkI ..⟩
  ·cases h
 |unOp op t x =>
  refine lift ?_;cases op with
  |not =>
   simp only[jz] at h;have hx:=hr x;split at h
   ·rename_i hh;rw[hh] at hx;cases h;generalize c x=cx at hx;cases hx;exact⟨_,rfl,.ff _⟩
   ·rename_i hh;rw[hh] at hx;cases h;generalize c x=cx at hx;cases hx;exact⟨_,rfl,.tt _⟩
   ·rename_i b hh;rw[hh] at hx;cases h;generalize c x=cx at hx;cases hx;exact⟨_,rfl,.bool ..⟩
   ·cases h
  |neg =>
   simp only[jz] at h;split at h
   ·rename_i k n l hh;cases h;rw[yM hh (hr x)];exact⟨_,rfl,Rv.mkI ..⟩
   ·cases h
  |xor =>
   simp only[jz] at h;split at h
   ·rename_i k n l hh;cases h;rw[yM hh (hr x)];exact⟨_,rfl,Rv.mkI ..⟩
   ·cases h
  |_=>simp[jz] at h
 |binOp op t x y yt =>
  refine lift ?_;have key:∀op,MY P op t (q8 x || q8 y) (e x) (e y)=some v->∃cv,(do eqGuard op t x y (c x) (c y);binOp op t (c x) (c y):Sem Value).run P w=.ok cv w/\Rv ρ E v cv :=
   fun op h=>MZ h (hr x) (hr y) w
  cases op<;>first | exact key _ h | (simp[jz] at h)
 |nilCheck x =>
  simp only[jz] at h;have hx:=hr x;simp only[execOp];split at h
  ·rename_i b off hh;rw[hh] at hx;cases h;generalize c x=cx at hx ⊢;cases hx with | ref m=>exact⟨_,rfl,.ref m b off⟩
  ·rename_i cs off hh;rw[hh] at hx;cases h;generalize c x=cx at hx ⊢;have hx':=hx;cases hx;exact⟨_,rfl,hx'⟩
  ·rename_i t v hh;rw[hh] at hx;cases h;generalize c x=cx at hx ⊢;have hx':=hx;cases hx;exact⟨_,rfl,hx'⟩
  ·rename_i f a b hh;rw[hh] at hx;cases h;generalize c x=cx at hx ⊢;have hx':=hx;cases hx;exact⟨_,rfl,hx'⟩
  ·cases h
 |fieldAddr s x f=>exact lift (Pl rfl (hr x) h w)
 |typeAssert x xt t ok =>
  refine lift ?_;simp only[jz] at h;have hx:=hr x;split at h
  ·cases h
  ·cases h
  ·rename_i u t' v' hn hu hh;rw[hh] at hx;generalize c x=cx at hx;cases hx with
   |iface _ _ _ cv hv =>
    split at h
    ·rename_i ht;subst ht;cases h;cases ok
     ·refine⟨cv,?_,hv⟩;simp only[Instr.typeAssert,Sem.run_bind,run_underlying hu,Result.andThen_ok];cases u<;>simp_all
     ·refine⟨.tuple #[cv,.bool true],?_,.tup _ _ _ (by simp) (fun j=>?_)⟩
      ·simp only[Instr.typeAssert,Sem.run_bind,run_underlying hu,Result.andThen_ok];cases u<;>simp_all
      ·match j with
       |0=>exact hv
       |1=>exact .tt _
       |j+2=>exact .undef _ _
    ·rename_i ht;cases ok
     ·cases h
     ·obtain ⟨z,hz,rfl⟩:=Option.map_eq_some_iff.1 h;obtain ⟨cz,hzr,hzs,rfl⟩:=jR hz w;refine⟨.tuple #[cz,.bool false],?_,.tup _ _ _ (by simp) (fun j=>?_)⟩
      ·simp only[Instr.typeAssert,Sem.run_bind,run_underlying hu,Result.andThen_ok];cases u<;>simp_all
      ·match j with
       |0=>exact Rv.ofV ..
       |1=>exact .ff _
       |j+2=>exact .undef _ _
  ·rename_i u hn hu hh;rw[hh] at hx;generalize c x=cx at hx;cases hx;cases ok
   ·cases h
   ·obtain ⟨z,hz,rfl⟩:=Option.map_eq_some_iff.1 h;obtain ⟨cz,hzr,hzs,rfl⟩:=jR hz w;refine⟨.tuple #[cz,.bool false],?_,.tup _ _ _ (by simp) (fun j=>?_)⟩
    ·simp only[Instr.typeAssert,Sem.run_bind,run_underlying hu,Result.andThen_ok];cases u<;>simp_all
    ·match j with
     |0=>exact Rv.ofV ..
     |1=>exact .ff _
     |j+2=>exact .undef _ _
  ·cases h
 |call cl =>
  obtain ⟨callee,⟨l⟩,ats⟩:=cl;simp only[jz] at h;have bi:∀b,callee=.builtin b->∀(s:Sem Value),(∀consts,builtin b ats type consts ((⟨l⟩:Array Operand).map c)=(do pure (.value (<- s))))->(∃cv,s.run P w=.ok cv w/\Rv ρ E v cv) ->
    ∃cv,(execOp c ⟨dst,.call ⟨callee,⟨l⟩,ats⟩,type,pos,after,guard⟩).run P w=.ok (.value cv) w/\Rv ρ E v cv:=by
   rintro b rfl s hs ⟨cv,h1,h2⟩;refine⟨cv,?_,h2⟩;simp only[execOp,resolve,Sem.run_bind,Sem.run_pure,Result.andThen_ok,invoke];rw[hs];simp[h1]
  split at h
  ·rename_i x hx;obtain ⟨a,rfl,rfl⟩:∃a,l=[a]/\e a=x:=by
    cases l with
    |nil=>simp at hx
    |cons a r=>cases r<;>simp_all
   have hv:=hr a;refine bi _ rfl (Builtin.len_ ats type #[c a]) (fun _=>by simp[builtin]) ?_;split at h
   ·rename_i el m es ht hh;obtain ⟨t,ht0,ht⟩:=Option.bind_eq_some_iff.1 ht;rw[hh] at hv;generalize c a=cv at hv ⊢;cases h;have hlen:∃p q,cv=.slice p es.length q:=by cases hv<;>exact⟨_,_,rfl⟩
    obtain ⟨p,q,rfl⟩:=hlen;exact⟨_,by simp[Builtin.len_,ht0,run_underlying ht,goInt],Rv.mkI ..⟩
   ·rename_i el b off len esz ag ht hh;obtain ⟨t,ht0,ht⟩:=Option.bind_eq_some_iff.1 ht;rw[hh] at hv;generalize c a=cv at hv ⊢;cases h;have hlen:∃p q,cv=.slice p len q:=by cases hv<;>exact⟨_,_,rfl⟩
    obtain ⟨p,q,rfl⟩:=hlen;exact⟨_,by simp[Builtin.len_,ht0,run_underlying ht,goInt],.int ..⟩
   ·rename_i s ht hh;obtain ⟨t,ht0,ht⟩:=Option.bind_eq_some_iff.1 ht;rw[hh] at hv;generalize c a=cv at hv ⊢;cases h;cases hv;exact⟨_,by simp[Builtin.len_,ht0,run_underlying ht,goInt],.int ..⟩
   ·rename_i n el ht;obtain ⟨t,ht0,ht⟩:=Option.bind_eq_some_iff.1 ht;cases h;exact⟨_,by simp[Builtin.len_,ht0,run_underlying ht,goInt],.lit ..⟩
   ·cases h
  ·rename_i x r hx;obtain ⟨a,s,rfl,rfl,rfl⟩:∃a s,l=a::s/\e a=x/\s.map e=r:=by
    cases l with
    |nil=>simp at hx
    |cons a s=>exact⟨a,s,by simp_all⟩
   refine bi _ rfl (Builtin.max_ ats type ((⟨a::s⟩:Array Operand).map c)) (fun _=>by simp[builtin]) ?_;obtain ⟨h1,h2⟩:=Y4 hr ⟨s⟩;obtain ⟨cv,h3,h4⟩:=Sz w true (s.map e) (s.map c) _ v _ h (hr a) (by simp) (fun j=>by have:=h2 j;simpa[<- jj] using this);exact⟨cv,by simpa[Builtin.max_] using h3,h4⟩
  ·rename_i x r hx;obtain ⟨a,s,rfl,rfl,rfl⟩:∃a s,l=a::s/\e a=x/\s.map e=r:=by
    cases l with
    |nil=>simp at hx
    |cons a s=>exact⟨a,s,by simp_all⟩
   refine bi _ rfl (Builtin.min_ ats type ((⟨a::s⟩:Array Operand).map c)) (fun _=>by simp[builtin]) ?_;obtain ⟨h1,h2⟩:=Y4 hr ⟨s⟩;obtain ⟨cv,h3,h4⟩:=Sz w false (s.map e) (s.map c) _ v _ h (hr a) (by simp) (fun j=>by have:=h2 j;simpa[<- jj] using this);exact⟨cv,by simpa[Builtin.min_] using h3,h4⟩
  ·cases h
 |_=>simp[jz] at h
def YE (ρ:RO):List AV->List MapEntry->Prop
 |[],[]=>True
 |x::es,e::zE=>(∃k v,x=.agg [k,v]/\kf k=some e.key/\Rv ρ none v e.val)/\YE ρ es zE
 |_,_=>False
theorem YE.imp {ρ ρ':RO} (h:∀v cv,Rv ρ none v cv->Rv ρ' none v cv):∀ {es:List AV} {zE:List MapEntry},YE ρ es zE->YE ρ' es zE
 |[],[],_=>trivial
 |[],_::_,g=>g.elim
 |_::_,[],g=>g.elim
 |_::_,_::_,⟨⟨k,v,h1,h2,h3⟩,g⟩=>⟨⟨k,v,h1,h2,h _ _ h3⟩,g.imp h⟩
def lev (E:Lay) (x:Bx):Option Lay:=if x.arr then none else some E
def WH (lv:Option Lay) (cs:List AV):Option (List AV):=match lv with
 |none=>none
 |some _=>qh cs
theorem q9 (E:Lay) (x:Bx):(lev E x).isSome=!x.arr:=by unfold lev;cases x.arr<;>rfl
theorem xD (E:Lay) (x:Bx):WH (lev E x) x.cs=x.mp:=by unfold lev Bx.mp;cases x.arr<;>rfl
theorem xf {lv:Option Lay} {cs:List AV} (h:qh cs=none):WH lv cs=none:=by cases lv with
 |none=>rfl
 |some E=>exact h
theorem JI {x:Bx} (h:qh x.cs=none):x.mp=none:=by unfold Bx.mp;rw[h];exact ite_self _
theorem xC {E:Lay} {x:Bx} (h:x.arr=true) (cs:List AV):WH (lev E x) cs=none:=by unfold lev;rw[if_pos h];rfl
theorem Nt {lv lv':Option Lay} {cs cs':List AV} (hl:lv'.isSome=lv.isSome) (hm:qh cs'=qh cs):WH lv' cs'=WH lv cs:=by
 cases lv<;>cases lv'<;>first | rfl | exact hm | cases hl
def xr (ρ:RO) (lv:Option Lay) (cs:List AV) (k:Nat) (o:Obj):Prop :=
 match WH lv cs with
 |none=>∃c e,o=.cells c e (0,0)/\c.size=k/\RvC ρ lv cs c
 |some es=>∃zE clock,o=.map zE clock/\YE ρ es zE.toList
theorem xr.imp {ρ ρ':RO} {lv lv':Option Lay} {cs cs':List AV} {k:Nat} {o:Obj} (hm:qh cs'=qh cs) (h:∀j cv,Rv ρ lv (cs.getD j .undef) cv->Rv ρ' lv' (cs'.getD j .undef) cv) (ho:xr ρ lv cs k o) (hl:lv'.isSome=lv.isSome:=by first | rfl | (simp only[q9];done) | simp[q9, *])
  (hr:∀es,WH lv cs=some es->es≠[]->∀v cv,Rv ρ none v cv->Rv ρ' none v cv:=by first | exact fun _ _ _ _ _ h=>h | exact fun _ _ _ _ _ h=>Rv.mono (by assumption) h | exact fun _ _ _ _ _ h=>Rv.zQ (by assumption) h):xr ρ' lv' cs' k o:=by
 unfold xr at ho ⊢;rw[Nt hl hm];cases hc:WH lv cs with
 |none =>
  rw[hc] at ho;obtain ⟨c,e,h1,h2,h3⟩:=ho;exact⟨c,e,h1,h2,fun j=>h j _ (h3 j)⟩
 |some es =>
  rw[hc] at ho;obtain ⟨zE,clock,h1,h2⟩:=ho;refine⟨zE,clock,h1,?_⟩;have key:∀l,YE ρ [] l->YE ρ' [] l:=fun l h=>by
   cases l with
   |nil=>trivial
   |cons y ys=>exact h.elim
  by_cases he:es=[]
  ·subst he;exact key _ h2
  ·exact h2.imp (hr es hc he)
theorem xr.cells {ρ:RO} {lv:Option Lay} {cs:List AV} {k:Nat} {c:Array Value} {e:TypeId} (hm:WH lv cs=none) (hsz:c.size=k) (h:RvC ρ lv cs c):xr ρ lv cs k (.cells c e (0,0)):=by
 unfold xr;rw[hm];exact⟨c,e,rfl,hsz,h⟩
theorem xr.get {ρ:RO} {lv:Option Lay} {cs:List AV} {k:Nat} {o:Obj} (hm:WH lv cs=none) (h:xr ρ lv cs k o):∃c e,o=.cells c e (0,0)/\c.size=k/\RvC ρ lv cs c:=by
 unfold xr at h;rw[hm] at h;exact h
theorem U3 (x:AV):kV x.norm=kV x:=by
 cases x with
 |iface t v=>cases v<;>simp only[AV.norm,kV]
 |_=>simp only[AV.norm,kV]
theorem xo (cs:List AV):qh (AV.za cs)=qh cs:=by
 match cs with
 |[]=>rfl
 |[x]=>simp only[AV.za,qh];exact U3 x
 |x::y::r=>simp only[AV.za];rfl
theorem X6 (f:Nat->Option Nat) (x:AV):kV (x.zj f)=kV x:=by
 cases x with
 |iface t v=>cases v<;>simp only[AV.zj]<;>(try split)<;>simp only[kV]
 |ref b o=>simp only[AV.zj];split<;>simp only[kV]
 |aslc b o l z g=>simp only[AV.zj];split<;>simp only[kV]
 |map b=>simp only[AV.zj];split<;>simp only[kV]
 |_=>simp only[AV.zj,kV]
theorem wF (f:Nat->Option Nat) (cs:List AV):qh (AV.zg f cs)=qh cs:=by
 match cs with
 |[]=>rfl
 |[x]=>simp only[AV.zg,qh];exact X6 f x
 |x::y::r=>simp only[AV.zg];rfl
theorem u9 {cs es:List AV} (h:qh cs=some es):∃m,cs=[.iface 1000000 (.slc m es)]:=by
 match cs with
 |[]=>cases h
 |x::y::r=>cases h
 |[x] =>
  simp only[qh] at h;cases x with
  |iface t v =>
   cases v with
   |slc m es' =>
    simp only[kV] at h;split at h
    ·rename_i ht;cases h;exact⟨m,by rw[ht]⟩
    ·cases h
   |_=>cases h
  |_=>cases h
theorem Sw {cs cs':List AV} (h:xB cs cs'=true) (hs:∀m es,cs=[.iface 1000000 (.slc m es)]->qh cs'=some es):qh cs'=qh cs:=by
 unfold xB at h;cases hc:qh cs with
 |none =>
  rw[hc] at h;simpa using h
 |some es =>
  obtain ⟨m,he⟩:=u9 hc;exact hs m es he
structure kR (ρ:RO) (lv:Option Lay) (E:Lay) (w:World) (b:Nat) (cs:List AV):Prop where
 len:cs.length<=(E b).2
 blk:(E b).2=0\/∃o,w.heap[(E b).1]? = some o/\xr ρ lv cs (E b).2 o
structure qw (B:Nat) (w w':World):Prop where
 os:w'.os=w.os
 tape:w'.tape=w.tape
 output:w'.output=w.output
 size:w.heap.size<=w'.heap.size
 block:∀k,k≠B->w'.heap[k]? = w.heap[k]?
def TJ (ρ0 ρ:RO) (w0:World) (ds:List Deferred):Prop :=
 ∃Ds:List Nat,ds=Ds.map (fun D=>{ target:=.collected D,args:=#[] })/\Ds.Nodup/\∀D∈Ds,ρ D=some (.deferred (some []))/\ρ0 D=none/\w0.heap.size<=D
theorem TJ.nil (ρ0 ρ:RO) (w0:World):TJ ρ0 ρ w0 []:=⟨[],rfl,.nil,by simp⟩
theorem TJ.mono {ρ0 ρ ρ':RO} {w0:World} {ds:List Deferred} (h:TJ ρ0 ρ w0 ds) (hle:ρ.le ρ'):TJ ρ0 ρ' w0 ds:=by
 obtain ⟨Ds,h1,h2,h3⟩:=h;exact⟨Ds,h1,h2,fun D hD=>⟨hle _ _ (h3 D hD).1,(h3 D hD).2⟩⟩
def Own (n:Nat) (E0:Lay) (w0:World) (k:Nat):Prop:=w0.heap.size<=k\/∃c,c<n/\(E0 c).2≠0/\k=(E0 c).1
structure Sat (ds:List Deferred) (n:Nat) (E0:Lay) (ρ0:RO) (w0:World) (ρ:RO) (E:Lay) (Z:St) (a:Act) (w:World):Prop where
 gl:ka ρ0
 dfe:a.defers=ds
 defs:TJ ρ0 ρ w0 ds
 sz:Z.sl.length=a.tmps.size
 sl:∀t,Rv ρ (some E) (Z.sl.getD t .undef) (a.tmps.getD t Go.undef)
 box:∀b x,Z.bx.getD b none=some x->kR ρ (lev E x) E w b x.cs
 inj:∀b b' cs cs',Z.box b=some cs->Z.box b'=some cs'->b≠b'->(E b).2≠0->(E b').2≠0->(E b).1≠(E b').1
 sep:∀b cs,Z.box b=some cs->(E b).2≠0->ρ (E b).1=none
 own:∀b cs,Z.box b=some cs->(E b).2≠0->n<=b->Own n E0 w0 (E b).1
 inc:∀b,b<n->E b=E0 b
 ro:∀k o,ρ k=some o->w.heap[k]? = some o
 le:ρ0.le ρ
 new:∀k o,ρ k=some o->ρ0 k=none->Own n E0 w0 k
 frame:∀k,k<w0.heap.size->(∀b,b<n->(E0 b).2≠0->k≠(E0 b).1)->w.heap[k]? = w0.heap[k]?
 size:w0.heap.size<=w.heap.size
 os:w.os=w0.os
 tape:w.tape=w0.tape
 output:w.output=w0.output
section
variable {ds:List Deferred} {n:Nat} {E0:Lay} {ρ0:RO} {w0:World} {ρ:RO} {E:Lay} {Z:St} {a:Act} {w:World}
theorem y5 {l:List AV} {d t:Nat} {v:AV}:(l.set d v).getD t .undef=if t=d/\d<l.length then v else l.getD t .undef:=by
 by_cases h:t=d
 ·subst h;by_cases hl:t<l.length
  ·simp[List.getD,hl]
  ·simp[List.getD,hl]
 ·simp[List.getD,h,List.getElem?_set_ne (Ne.symm h)]
theorem jn {l:Array Value} {d t:Nat} {v:Value}:(l.setIfInBounds d v).getD t Go.undef=if t=d/\d<l.size then v else l.getD t Go.undef:=by
 by_cases h:t=d
 ·subst h;by_cases hl:t<l.size
  ·simp[Array.getD,hl]
  ·simp[Array.getD,hl]
 ·simp only[h,false_and,if_false,Array.getD,Array.size_setIfInBounds];by_cases hs:t<l.size
  ·simp[hs,Ne.symm h]
  ·simp[hs]
theorem Sat.put (hs:Sat ds n E0 ρ0 w0 ρ E Z a w) {d:Option Nat} {v:AV} {cv:Value} (hv:Rv ρ (some E) v cv):Sat ds n E0 ρ0 w0 ρ E (Z.put d v) (a.put d cv) w:=by
 cases d with
 |none=>exact hs
 |some d =>
  exact { hs with
   sz:=by simp[St.put,Act.put,hs.sz]
   sl:=fun t=>by
    simp only[St.put,Act.put];rw[y5,jn,hs.sz];split
    ·exact hv
    ·exact hs.sl t }
theorem Sat.eval (hs:Sat ds n E0 ρ0 w0 ρ E Z a w) (x:Operand):Rv ρ (some E) (ev Z x) (a.eval x):=by
 cases x with
 |tmp t=>exact hs.sl t
 |const v=>exact Rv.ofV ..
 |global g =>
  simp only[ev];split
  ·rename_i cs hg;exact(hs.gl.mono hs.le).rv hg _
  ·exact .undef ..
 |func f=>exact .fn _ _ _ _ #[] #[] rfl rfl (fun j=>.undef ..) (fun j=>.undef ..)
theorem Sat.drew (hs:Sat ds n E0 ρ0 w0 ρ E Z a w):Sat ds n E0 ρ0 w0 ρ E Z a w.drew :=
 {hs with box:=fun b cs h=>⟨(hs.box b cs h).len,(hs.box b cs h).blk⟩ }
theorem Sat.drawn (hs:Sat ds n E0 ρ0 w0 ρ E Z a w) (k:Nat):Sat ds n E0 ρ0 w0 ρ E Z a { w with drawn:=k } :=
 {hs with box:=fun b cs h=>⟨(hs.box b cs h).len,(hs.box b cs h).blk⟩ }
theorem yY {l:List AV} {b j:Nat} (h:b∈(l.getD j .undef).refs):b∈AV.zd l:=by
 induction l generalizing j with
 |nil=>simp[AV.refs] at h
 |cons x r ih =>
  simp only[AV.zd,List.mem_append];cases j with
  |zero=>exact .inl h
  |succ j=>exact .inr (ih (by simpa using h))
theorem Rv.lay {ρ:RO} {E E':Lay} {v:AV} {cv:Value} (hv:Rv ρ (some E) v cv) (h:∀b∈v.refs,E' b=E b):Rv ρ (some E') v cv:=by
 generalize hn:some E=o at hv;induction hv with
 |undef _ v=>exact .undef _ v
 |tt _=>exact .tt _
 |ff _=>exact .ff _
 |bool _ b=>exact .bool _ b
 |lit _ k n=>exact .lit _ k n
 |int _ k n=>exact .int _ k n
 |str _ s=>exact .str _ s
 |nilp _=>exact .nilp _
 |eptr _ cs b o off c hc _ ih=>exact .eptr _ cs b o off c hc (fun j=>ih j (fun b hb=>h b (by simp only[AV.refs];exact yY hb)) hn)
 |ref m b off=>cases hn;rw[<- h b (by simp[AV.refs])];exact .ref E' b off
 |nilslc _ m=>exact .nilslc _ m
 |eslc _ m a hm=>exact .eslc _ m a hm
 |slc _ m es b o cap k c hm hcap h2 hk hc hh _=>exact .slc _ m es b o cap k c hm hcap h2 hk hc hh
 |aslc m b off len esz ag cap hcap hr =>
  cases hn;have hb:=h b (by simp[AV.refs]);rw[<- hb] at hr ⊢;exact .aslc E' b off len esz ag cap hcap hr
 |aslc0 m b esz ag a h0 =>
  cases hn;have hb:=h b (by simp[AV.refs]);rw[<- hb] at h0;exact .aslc0 E' b esz ag a h0
 |fn _ g first caps vf vc hf' hc _ _ ih1 ih2 =>
  exact .fn _ g _ _ vf vc hf' hc (fun j=>ih1 j (fun b hb=>h b (by simp[AV.refs,yY hb])) hn) (fun j=>ih2 j (fun b hb=>h b (by simp[AV.refs,yY hb])) hn)
 |nilfn _=>exact .nilfn _
 |iface _ t v v' _ ih=>exact .iface _ t _ v' (ih (fun b hb=>h b (by simpa[AV.refs] using hb)) hn)
 |nilif _=>exact .nilif _
 |agg _ cs vs hl _ ih=>exact .agg _ _ vs hl (fun j=>ih j (fun b hb=>h b (by simp[AV.refs,yY hb])) hn)
 |tup _ cs vs hl _ ih=>exact .tup _ _ vs hl (fun j=>ih j (fun b hb=>h b (by simp[AV.refs,yY hb])) hn)
 |map m b=>cases hn;rw[<- h b (by simp[AV.refs])];exact .map E' b
 |nilmap _=>exact .nilmap _
 |yld _ l=>exact .yld _ l
def wK (E:Lay) (b:Nat) (x:Nat × Nat):Lay:=fun i=>if i=b then x else E i
theorem Rv.zk {ρ:RO} {E:Lay} {v:AV} {cv:Value} (hv:Rv ρ (some E) v cv) {b:Nat} (h:b∉v.refs) (x:Nat × Nat):Rv ρ (some (wK E b x)) v cv :=
 hv.lay fun i hi=>by unfold wK;rw[if_neg];rintro rfl;exact h hi
theorem Rv.zo {ρ:RO} {E:Lay} {x:Bx} {v:AV} {cv:Value} (hv:Rv ρ (lev E x) v cv):Rv ρ (some E) v cv:=by
 unfold lev at hv;split at hv
 ·exact hv.any _
 ·exact hv
theorem Rv.zP {ρ:RO} {E:Lay} {x:Bx} {v:AV} {cv:Value} (hv:Rv ρ (lev E x) v cv) {b:Nat} (h:x.arr=false->b∉v.refs) (y:Nat × Nat):Rv ρ (lev (wK E b y) x) v cv:=by
 unfold lev at hv ⊢;split at hv
 ·rename_i hx;rw[if_pos hx];exact hv
 ·rename_i hx;rw[if_neg hx];exact hv.zk (h (by simpa using hx)) y
theorem yT {Z:St} {b:Nat} {cs:List AV} (h:Z.box b=some cs):∃x,Z.bx.getD b none=some x/\x.cs=cs:=by
 unfold St.box at h;exact Option.map_eq_some_iff.1 h
theorem yu {Z:St} {b:Nat} {x:Bx} (h:Z.bx.getD b none=some x):Z.box b=some x.cs:=by simp only[St.box,h,Option.map_some]
theorem qc {bx:List (Option Bx)} {b i:Nat} {x:Option Bx}:(bx.set b x).getD i none=if i=b/\b<bx.length then x else bx.getD i none:=by
 by_cases h:i=b
 ·subst h;by_cases hl:i<bx.length
  ·simp[List.getD,hl]
  ·simp[List.getD,hl]
 ·simp[List.getD,h,List.getElem?_set_ne (Ne.symm h)]
theorem SF {b:Nat} {Z:St} (h:v7 b Z=true) (t:Nat):b∉(Z.sl.getD t .undef).refs:=by
 intro hb;simp only[v7,Bool.and_eq_true,Bool.not_eq_true',List.contains_eq_mem,decide_eq_false_iff_not] at h;exact h.1 (yY hb)
theorem SE {b:Nat} {Z:St} (h:v7 b Z=true) {i:Nat} {x:Bx} (hx:Z.bx.getD i none=some x):b∉x.refs:=by
 simp only[v7,Bool.and_eq_true] at h;have hmem:some x∈Z.bx:=by
  simp only[List.getD] at hx;cases hg:Z.bx[i]? with
  |none=>simp[hg] at hx
  |some y =>
   simp only[hg,Option.getD_some] at hx;subst hx;exact List.mem_of_getElem? hg
 have:=List.all_eq_true.1 h.2 _ hmem;simpa using this
theorem PS {x:Bx} (ha:x.arr=false) {b j:Nat} (h:b∈(x.cs.getD j .undef).refs):b∈x.refs:=by
 unfold Bx.refs;rw[ha];exact yY h
theorem Sat.zp (hs:Sat ds n E0 ρ0 w0 ρ E Z a w) {d:Nat} {x:Bx} {p:AV} {cp:Value} {w':World} {B κ:Nat} {o:Obj}
  (hno:v7 (n+d) { sl:=Z.sl.set d .undef,bx:=Z.bx.set (n+d) none }=true) (hx:n+d∉x.refs) (hd:d<Z.sl.length) (hdb:n+d<Z.bx.length)
  (hw:qw B w w') (hB:κ=0\/(w'.heap[B]? = some o/\xr ρ (lev E x) x.cs κ o)) (hl:x.cs.length<=κ)
  (hfree:∀b cs,b≠n+d->Z.box b=some cs->(E b).2≠0->(E b).1≠B) (hro:ρ B=none) (hown:Own n E0 w0 B)
  (hp:Rv ρ (some (wK E (n+d) (B,κ))) p cp) :
  Sat ds n E0 ρ0 w0 ρ (wK E (n+d) (B,κ)) { sl:=Z.sl.set d p,bx:=Z.bx.set (n+d) (some x) } (a.put (some d) cp) w':=by
 have hbox:∀b cs,({ sl:=Z.sl.set d p,bx:=Z.bx.set (n+d) (some x) }:St).box b=some cs->(b=n+d/\cs=x.cs)\/(b≠n+d/\Z.box b=some cs):=by
  intro b cs h;simp only[St.box] at h;rw[qc] at h;by_cases hb:b=n+d
  ·rw[if_pos ⟨hb,hdb⟩] at h;exact .inl ⟨hb,by simpa using h.symm⟩
  ·rw[if_neg (fun h=>hb h.1)] at h;exact .inr ⟨hb,h⟩
 have hold:∀b y,b≠n+d->Z.bx.getD b none=some y->({ sl:=Z.sl.set d .undef,bx:=Z.bx.set (n+d) none }:St).bx.getD b none=some y:=by
  intro b y hb h;rw[qc,if_neg (fun h=>hb h.1)];exact h
 have hupd:∀b,b≠n+d->wK E (n+d) (B,κ) b=E b:=fun b hb=>by simp[wK,hb]
 have hupe:wK E (n+d) (B,κ) (n+d)=(B,κ):=by simp[wK]
 refine { gl:=hs.gl,dfe:=hs.dfe,defs:=hs.defs,sz:=?_,sl:=?_,box:=?_,inj:=?_,sep:=?_,own:=?_,inc:=?_,ro:=?_,le:=hs.le,new:=hs.new,frame:=?_,size:=Nat.le_trans hs.size hw.size,os:=hw.os.trans hs.os,tape:=hw.tape.trans hs.tape,output:=hw.output.trans hs.output }
 ·simp[Act.put,hs.sz]
 ·intro t;simp only[Act.put];rw[y5,jn,hs.sz];by_cases ht:t=d
  ·rw[if_pos ⟨ht,by rw[<- hs.sz];exact hd⟩,if_pos ⟨ht,by rw[<- hs.sz];exact hd⟩];exact hp
  ·rw[if_neg (fun h=>ht h.1),if_neg (fun h=>ht h.1)];have:=SF hno t;simp only[y5,ht,false_and,if_false] at this;exact(hs.sl t).zk this _
 ·intro b y h;simp only[qc] at h;by_cases hb:b=n+d
  ·rw[if_pos ⟨hb,hdb⟩] at h;cases h;subst hb;refine⟨by rw[hupe];exact hl,?_⟩;rw[hupe];rcases hB with h0 | ⟨h1,h3⟩
   ·exact .inl h0
   ·exact .inr ⟨o,h1,h3.imp rfl fun j cv hj=>hj.zP (fun ha hm=>hx (PS ha hm)) _⟩
  ·rw[if_neg (fun h=>hb h.1)] at h;obtain ⟨h1,h2⟩:=hs.box b y h;refine⟨by rw[hupd b hb];exact h1,?_⟩;rw[hupd b hb];rcases h2 with h2 | ⟨o',h3,h5⟩
   ·exact .inl h2
   ·by_cases hk:(E b).2=0
    ·exact .inl hk
    ·refine .inr ⟨o',?_,h5.imp rfl fun j cv hj=>hj.zP (fun ha hm=>SE hno (hold b _ hb h) (PS ha hm)) _⟩;rw[hw.block _ (hfree b _ hb (yu h) hk)];exact h3
 ·intro b b' cs cs' h h' hne hk hk';rcases hbox b cs h with ⟨rfl,rfl⟩ | ⟨hb,h⟩<;>rcases hbox b' cs' h' with ⟨rfl,rfl⟩ | ⟨hb',h'⟩
  ·exact absurd rfl hne
  ·rw[hupe,hupd b' hb'] at *;exact fun he=>hfree b' cs' hb' h' hk' he.symm
  ·rw[hupe,hupd b hb] at *;exact hfree b cs hb h hk
  ·rw[hupd b hb,hupd b' hb'] at *;exact hs.inj b b' cs cs' h h' hne hk hk'
 ·intro b cs h hk;rcases hbox b cs h with ⟨rfl,rfl⟩ | ⟨hb,h⟩
  ·rw[hupe];exact hro
  ·rw[hupd b hb] at *;exact hs.sep b cs h hk
 ·intro b cs h hk hn;rcases hbox b cs h with ⟨rfl,rfl⟩ | ⟨hb,h⟩
  ·rw[hupe];exact hown
  ·rw[hupd b hb] at *;exact hs.own b cs h hk hn
 ·intro b hb;rw[hupd b (by omega)];exact hs.inc b hb
 ·intro k o hk;rw[hw.block k (by rintro rfl;rw[hro] at hk;cases hk)];exact hs.ro k o hk
 ·intro k hk hb;rw[hw.block k (by
   rintro rfl;rcases hown with h | ⟨c,hc,h0,he⟩
   ·omega
   ·exact hb c hc h0 he)];exact hs.frame k hk hb
theorem qw.alloc (w:World) (o:Obj):qw w.heap.size w (w.alloc o) :=
 ⟨rfl,rfl,rfl,by simp,fun k hk=>by
  show (w.heap.push o)[k]? = w.heap[k]?;rw[Array.getElem?_push,if_neg hk]⟩
theorem qw.drawn {B:Nat} {w w':World} (h:qw B w w') (k:Nat):qw B { w with drawn:=k } w':=⟨h.os,h.tape,h.output,h.size,h.block⟩
theorem qw.refl (B:Nat) (w:World):qw B w w:=⟨rfl,rfl,rfl,Nat.le_refl _,fun _ _=>rfl⟩
theorem Sat.zZ (hs:Sat ds n E0 ρ0 w0 ρ E Z a w) {b:Nat} {cs:List AV} (h:Z.box b=some cs) (hk:(E b).2≠0):Own n E0 w0 (E b).1:=by
 rcases Nat.lt_or_ge b n with hb | hb
 ·exact .inr ⟨b,hb,by rw[<- hs.inc b hb];exact hk,by rw[hs.inc b hb]⟩
 ·exact hs.own b cs h hk hb
theorem Sat.alloc (hs:Sat ds n E0 ρ0 w0 ρ E Z a w) {d:Nat} {x:Bx} {p:AV} {cp:Value} {c:Array Value} {e:TypeId} {K:St->Prop}
  (h:qS n d x p Z K) (hl:x.cs.length<=c.size) (hc:RvC ρ (lev E x) x.cs c)
  (hp:∀E':Lay,E' (n+d)=(w.heap.size,c.size)->Rv ρ (some E') p cp) :
  ∃E' Z',Sat ds n E0 ρ0 w0 ρ E' Z' (a.put (some d) cp) (w.alloc (.cells c e))/\K Z':=by
 unfold qS at h;split at h
 ·rename_i hh;simp only[Bool.and_eq_true,Bool.not_eq_true',List.contains_eq_mem,decide_eq_false_iff_not,decide_eq_true_eq] at hh;obtain ⟨⟨⟨⟨h0,h1⟩,h2⟩,h3⟩,h4⟩:=hh;refine⟨_,_,hs.zp (o:=.cells c e (0,0)) h1 h2 h3 h4 (qw.alloc w _) (.inr ⟨Array.getElem?_push_size,.cells (by rw[xD];simpa using h0) rfl hc⟩) hl ?_ ?_ (.inl hs.size) (hp _ (by simp[wK])),h⟩
  ·intro b cs _ hb hk he;obtain ⟨y,hy,rfl⟩:=yT hb;rcases (hs.box b y hy).blk with h0 | ⟨o',h1,_⟩
   ·exact hk h0
   ·rw[he] at h1;rw[Array.getElem?_eq_none (Nat.le_refl _)] at h1;cases h1
  ·cases hr:ρ w.heap.size with
   |none=>rfl
   |some o =>
    have:=hs.ro _ _ hr;rw[Array.getElem?_eq_none (Nat.le_refl _)] at this;cases this
 ·exact h.elim
end
end Go.Proofs.YtdeeekgohhkdbaaGreatDoor

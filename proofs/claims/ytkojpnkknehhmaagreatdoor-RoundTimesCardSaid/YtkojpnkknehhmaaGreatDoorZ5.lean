/- Functions that yield: one operation. Functions that yield: regions, loops, the whole text. Functions that yield: contracts out of the evaluator. -/
import Derived.Test.YtkojpnkknehhmaaGreatDoorZ2
namespace Go.Proofs.YtkojpnkknehhmaaGreatDoor
open Go.RowKit
theorem Fe {P:Program} {l:Nat} {o:Oper} {a:Act} {w:World} {fn:FuncId} {tmps:Array Value} {assign body:Code} {R:Ending->World->Prop} {next:Act->World->Prop} {Q:Exit->Act->World->Prop}
  (h:(execOp a.eval o).run P w=.ok (.round l fn tmps assign body) w) (hR:RoundIn Fence.wide 0 P l fn tmps assign body w R) (hn:∀e w',R e w'->∃v,e=.returned v/\next (a.put o.dst v) w'):o.wpIn (Fr none) 0 P a w next Q:=by
 refine⟨fun _ _=>trivial,?_⟩;show o.uponIn (Fr none) 0 P a next Q ((o.semAt none a.eval).run P w);rw[u9 h (by simp),Oper.uponIn_round];refine⟨fun h=>(by cases h),RoundIn.mono (F:=Fr none) hR fun e w' he=>?_⟩;obtain ⟨v,rfl,hn⟩:=hn e w' he;exact hn
def HZ (J:ItJ) (Jx:ItX):Option Nat->RO->(Nat->Prop)->World->Prop
 |some i,ρ,T,W=>J ρ T i W
 |none,ρ,T,W=>Jx ρ T W
theorem HZ.step {J:ItJ} {Jx:ItX} (hJ:xw J) (hX:vw Jx) {i:Option Nat} {ρ:RO} {T:Nat->Prop} {W:World} {ρ':RO} {T':Nat->Prop} {W':World} (h:HZ J Jx i ρ T W) (hs:Xy ρ T W ρ' T' W'):HZ J Jx i ρ' T' W':=by
 cases i with
 |none=>exact hX _ _ _ _ _ _ h hs
 |some i=>exact hJ _ _ _ _ _ _ _ h hs
def Wy (P:Program) (l:Nat) (J:ItJ) (Jx:ItX) (Y:Nat->List AV->Prop):Prop :=
 ∀ρ T i x ys W,Y i x->J ρ T i W->Rvs ρ none x ys->(∀k o,ρ k=some o->W.heap[k]? = some o) ->
  YieldAt Fence.wide 0 P l ys W fun e W'=>WK ρ T W W'/\((e=.returned (.bool true)/\J ρ T (i+1) W')\/(e=.returned (.bool false)/\Jx ρ T W'))
section
variable {n M l:Nat} {μS:Lay} {ρS:RO} {wS:World} {Tf:Nat->Prop} {J:ItJ} {Jx:ItX}
def AtZ (n M:Nat) (μS:Lay) (ρS:RO) (wS:World) (Tf:Nat->Prop) (J:ItJ) (Jx:ItX) (K:Option Nat->St->Prop) (a:Act) (w:World):Prop :=
 ∃i μ0 ρ0 W ρ μ σ,Yr n M μS ρS wS Tf μ0 ρ0 W/\Sat [] (n+M) μ0 ρ0 W ρ μ σ a w/\HZ J Jx i ρ0 (TB (n+M) μ0 Tf) W/\K i σ
theorem Yr.kept {μ0:Lay} {ρ0:RO} {w W':World} (hb:Yr n M μS ρS wS Tf μ0 ρ0 w) (hk:WK ρ0 (TB (n+M) μ0 Tf) w W'):Yr n M μS ρS wS Tf μ0 ρ0 W' :=
 {hb with
  frn:=fun k h=>by
   obtain ⟨h1,h2,h3,h4⟩:=hb.frn k h;exact⟨h1,h2,h3,(hk.box k (.inr h)).trans h4⟩
  size:=Nat.le_trans hb.size hk.size
  os:=hk.os.trans hb.os
  tape:=hk.tape.trans hb.tape
  output:=hk.output.trans hb.output }
variable {P:Program} {frs:Ways} {il:vZ} {Y:Nat->List AV->Prop} {μ0:Lay} {ρ0:RO} {W:World} {ρ:RO} {μ:Lay} {σ:St} {a:Act} {w:World}
theorem Se (hR:Wy P l J Jx Y) (hJ:xw J) (hX:vw Jx) {g:FuncId} {args:List AV} {vs:Array Value} {d:Option Nat} {i:Nat} {K:Option Nat->St->Prop}
  (hb:Yr n M μS ρS wS Tf μ0 ρ0 W) (hs:Sat [] (n+M) μ0 ρ0 W ρ μ σ a w) (hi:J ρ0 (TB (n+M) μ0 Tf) i W) (hargs:Rvs ρ (some μ) args vs) (h:Jt n M Y (jK P l) g args d i σ K) :
  (callFunc g vs).run P w=.ok (.enter g vs) w/\Calls P g vs w (fun e w'=>∃cv,e=.returned cv/\AtZ n M μS ρS wS Tf J Jx K (a.put d cv) w'):=by
 unfold Jt at h;split at h
 case h_2=>exact h.elim
 rename_i bs hbs;split at h
 case isFalse=>exact h.elim
 rename_i hc;rw[Bool.and_eq_true,Bool.and_eq_true] at hc;obtain ⟨hl,hr,hro⟩:=hc;obtain ⟨xs,hseg,hY,hK1,hK2⟩:=h;generalize hB:yv σ args=B at *;obtain ⟨ra,rb,rnd,rbx⟩:=vo hro;obtain ⟨hbn,hst⟩:=hb.next hs hr;have hJw:=hJ _ _ _ _ _ _ _ hi hst;obtain ⟨hbl,hbi⟩:=u6 hbs;have hget:∀(j:Nat),j<B.length->∃(b:Nat) (x:Bx),B[j]? = some b/\bs[j]? = some x/\σ.bx.getD b none=some x/\b∈B:=by
  intro j hj;obtain ⟨x,h1,h2⟩:=hbi j B[j] (by simp[hj]);exact⟨B[j],x,by simp[hj],h1,h2,List.getElem_mem hj⟩
 let μB:Lay:=fun j=>match B[j]? with | some b=>μ b | none=>(0,0)
 have hμB:∀(j b:Nat),B[j]? = some b->μB j=μ b:=fun j b hj=>by simp only[μB,hj]
 have hren:∀(b j:Nat),idx b B=some j->μB j=μ b:=fun b j hj=>hμB j b (xc hj)
 have hOl:(bs.map fun x=>AV.zb (AV.zh (idx · B) x.cs)).length=B.length:=by simp[hbl]
 have hBk:∀k,jz μB B.length k->∃b x,b∈B/\σ.bx.getD b none=some x/\(μ b).2≠0/\k=(μ b).1:=by
  rintro k ⟨j,hj,hk,rfl⟩;obtain ⟨b,x,h1,_,h3,h4⟩:=hget j hj;rw[hμB j b h1] at hk ⊢;exact⟨b,x,h4,h3,hk,rfl⟩
 refine⟨hseg.enter vs w,?_⟩;refine(hseg.run ρ μB w vs J Jx i (TB (n+M) (jy n M σ μ) Tf) (hs.gl.mono hs.le) hs.ro ?_ ?_ ?_ ?_ ?_ hJ hX ?_ hJw).mono ?_
 ·intro j cs hj;simp only[List.getElem?_map] at hj;obtain ⟨x,hx,rfl⟩:=Option.map_eq_some_iff.1 hj;have hjl:j<B.length:=by have:=(List.getElem?_eq_some_iff.1 hx).1;omega
  obtain ⟨b,y,h1,h2,h3,h4⟩:=hget j hjl;rw[hx] at h2;cases h2;obtain ⟨k1,k2⟩:=hs.box b x h3;have hm:=hμB j b h1;refine⟨by rw[hm];simpa[yu,yQ] using k1,?_⟩;rw[hm];obtain ⟨x',hx',harr,_⟩:=rbx b h4;rw[h3] at hx';cases hx';rcases k2 with k2 | ⟨o,k3,k5⟩
  ·exact .inl k2
  ·refine .inr ⟨o,k3,k5.imp (by rw[vk,vl]) (fun j cv h6=>?_) (hl:=by rw[qD,harr];rfl)⟩;rw[yP,qt];unfold lev at h6;rw[if_neg (by simp[harr])] at h6;exact(h6.zj hren).norm
 ·intro j j' hj hj' hne hk hk';rw[hOl] at hj hj';obtain ⟨b,x,h1,_,h3,_⟩:=hget j hj;obtain ⟨b',x',h1',_,h3',_⟩:=hget j' hj';rw[hμB j b h1] at hk ⊢;rw[hμB j' b' h1'] at hk' ⊢;refine hs.inj b b' _ _ (yi h3) (yi h3') ?_ hk hk';rintro rfl;obtain ⟨q1,q2⟩:=List.getElem?_eq_some_iff.1 h1;obtain ⟨q3,q4⟩:=List.getElem?_eq_some_iff.1 h1';rcases Nat.lt_or_gt_of_ne hne with hl | hl
  ·exact List.pairwise_iff_getElem.1 rnd j j' q1 q3 hl (by rw[q2,q4])
  ·exact List.pairwise_iff_getElem.1 rnd j' j q3 q1 hl (by rw[q2,q4])
 ·intro j hj hk;rw[hOl] at hj;obtain ⟨b,x,hb',hx,h0,he⟩:=hBk _ ⟨j,hj,hk,rfl⟩;rw[he];exact .inl ((qw hr).2 ⟨b,x,hx,h0,rfl⟩)
 ·intro k hk;exact⟨hst.lt k hk,hst.sep k hk⟩
 ·refine⟨by rw[yu,yQ];exact hargs.1,fun j=>?_⟩;rw[yP,qt];exact((hargs.2 j).zj hren).norm
 ·intro ρ T j x ys W hx hj hys hpin;have:=hR ρ T (i+j) x ys W (hY j x hx) hj hys hpin;exact this
 ·rintro e W' ⟨ρ',T',ha,hres⟩;have hsep:∀b x,σ.bx.getD b none=some x->(μ b).2≠0->ρ' (μ b).1=none:=by
   intro b x hx hk;cases hn:ρ' (μ b).1 with
   |none=>rfl
   |some o=>have:=ha.new _ _ hn (hs.sep b _ (yi hx) hk);have:=hs.blkLt hx hk;omega
  have hbox:∀b x,σ.bx.getD b none=some x->vQ ρ' (lev (jy n M σ μ) x) (jy n M σ μ) W' b x.cs:=by
   intro b x hx;by_cases hbB:b∈B
   ·obtain ⟨j,hj1,hj2⟩:=uY hbB;have hjl:=(List.getElem?_eq_some_iff.1 hj2).1;obtain ⟨b',x',h1,h2,h3,_⟩:=hget j hjl;rw[hj2] at h1;cases h1;rw[hx] at h3;cases h3;obtain ⟨y,hy,harr,hro2⟩:=rbx b hbB;rw[hx] at hy;cases hy;obtain ⟨s1,s2,s3⟩:=jk x.cs hro2;obtain ⟨k1,k2⟩:=ha.box j (AV.zb (AV.zh (idx · B) x.cs)) (by simp[h2]);have hm:=hμB j b hj2;have hbl:=qB (μ:=μ) hr (kW hx);rw[hm] at k1 k2;refine⟨by rw[hbl];simpa[yu,yQ] using k1,?_⟩;rw[hbl];rcases k2 with k2 | ⟨o,k3,k5⟩
    ·exact .inl k2
    ·refine .inr ⟨o,k3,?_⟩;have:x.cs=AV.zh (B[·]?) (AV.zb (AV.zh (idx · B) x.cs)):=s3.symm;rw[this];refine k5.imp (by rw[vl]) (fun j cv h6=>?_) (hl:=by rw[qD,harr];rfl);rw[qt];unfold lev;rw[if_neg (by simp[harr])];refine h6.zj fun c e hce=>?_
     have hce':B[c]? = some e:=hce;rw[hμB c e hce'];obtain ⟨b2,x2,g1,_,g3,_⟩:=hget c (List.getElem?_eq_some_iff.1 hce').1;rw[hce'] at g1;cases g1;exact qB hr (kW g3)
   ·refine hs.zI hl hr ha.le hx fun hk=>?_
    refine ha.same _ (.inl ((qw hr).2 ⟨b,x,hx,hk,rfl⟩)) ?_;intro hbk;obtain ⟨b2,x2,h1,h2,h3,h4⟩:=hBk _ (by rw[hOl] at hbk;exact hbk);by_cases hbb:b=b2
    ·exact hbB (hbb▸h1)
    ·exact hs.inj b b2 _ _ (yi hx) (yi h2) hbb hk h3 h4
  have hsat:=hs.held hl hr ha.le ha.ro hsep hbox;have hT:∀k,TB (n+M) (jy n M σ μ) Tf k->ρ' k=none:=fun k hk=>by
   cases hn:ρ' k with
   |none=>rfl
   |some o=>have:=ha.new k o hn (hst.sep k hk);have:=hst.lt k hk;omega
  have hstep:Xy ρ' T' W' ρ' (TB (n+M) (jy n M σ μ) Tf) W' :=
   ⟨Nat.le_refl _,fun _ _ _=>rfl,RO.le_refl _,ha.ro,fun k o h h0=>(by rw[h0] at h;cases h),fun k hk=>.inl (ha.keeps k hk),fun k hk=>by have:=hst.lt k hk;have:=ha.size;omega,hT,rfl,rfl,rfl⟩
  have hbase:Yr n M μS ρS wS Tf (jy n M σ μ) ρ' W' :=
   {lay:=hbn.lay
    res:=hbn.res
    le:=hbn.le.trans ha.le
    new:=fun k o h h0=>by
     cases h1:ρ k with
     |none=>have:=ha.new k o h h1;have:=hbn.size;omega
     |some o'=>exact hbn.new k o' h1 h0
    frn:=fun k hk=>by
     obtain ⟨f1,f2,f3,f4⟩:=hbn.frn k hk;refine⟨f1,hT k (.inr hk),f3,?_⟩;rw[ha.same k (.inr hk) fun hbk=>?_]
     ·exact f4
     ·obtain ⟨b,x,_,hx,h0,rfl⟩:=hBk _ (by rw[hOl] at hbk;exact hbk);exact f3 ((qw hr).2 ⟨b,x,hx,h0,rfl⟩)
    size:=Nat.le_trans hbn.size ha.size
    os:=ha.os.trans hbn.os
    tape:=ha.tape.trans hbn.tape
    output:=ha.output.trans hbn.output }
  rcases hres with ⟨rfl,hj⟩ | ⟨rfl,hj⟩
  ·exact⟨_,rfl,some (i+xs.length),_,_,W',_,_,_,hbase,hsat.put (.tt _),hJ _ _ _ _ _ _ _ hj hstep,hK1⟩
  ·exact⟨_,rfl,none,_,_,W',_,_,_,hbase,hsat.put (.ff _),hX _ _ _ _ _ _ hj hstep,hK2⟩
theorem Me (hil:kG P il) (hR:Wy P l J Jx Y) (hJ:xw J) (hX:vw Jx) {o:Oper} {K:Option Nat->St->Prop} {Q:Exit->Act->World->Prop} {i:Option Nat}
  (hb:Yr n M μS ρS wS Tf μ0 ρ0 W) (hs:Sat [] (n+M) μ0 ρ0 W ρ μ σ a w) (hi:HZ J Jx i ρ0 (TB (n+M) μ0 Tf) W) (h:YR P (yj P frs il) n M l Y (jK P l) o i σ K):o.wpIn (Fr none) 0 P a w (AtZ n M μS ρS wS Tf J Jx K) Q:=by
 have plain:aop P (yj P frs il) (n+M) o σ (K i)->o.wpIn (Fr none) 0 P a w (AtZ n M μS ρS wS Tf J Jx K) Q:=fun h =>
  Oper.wpIn_mono (fun a w ⟨ρ,μ,σ,hs,h⟩=>⟨i,μ0,ρ0,W,ρ,μ,σ,hb,hs,hi,h⟩) (YS hil hs h)
 obtain ⟨dst,op,type,pos,after,guard⟩:=o;cases op with
 |call c =>
  obtain ⟨callee,args,ats⟩:=c;cases callee with
  |value f =>
   have clos:∀g first caps i,ev σ f=.fn g first caps->J ρ0 (TB (n+M) μ0 Tf) i W->Jt n M Y (jK P l) g (first++(args.toList.map (ev σ)++caps)) dst i σ K->(⟨dst,.call ⟨.value f,args,ats⟩,type,pos,after,guard⟩:Oper).wpIn (Fr none) 0 P a w (AtZ n M μS ρS wS Tf J Jx K) Q:=by
    intro g first caps i hf hi h;have hv:=hs.eval f;rw[hf] at hv;generalize hcf:a.eval f=cf at hv;cases hv with
    |fn _ _ _ _ vf vc hl1 hl2 hh1 hh2 =>
     obtain ⟨h1,h2⟩:=Se hR hJ hX (vs:=vf++(args.map a.eval++vc)) hb hs hi (jc ⟨hl1,hh1⟩ (jc (vv hs args) ⟨hl2,hh2⟩)) h;refine U6 ?_ h2;simp only[execOp,resolve,Deferred.ofValue,hcf,Sem.run_bind,Sem.run_pure,Result.andThen_ok,invoke];rw[<- h1,Array.append_assoc]
   cases f with
   |func g =>
    simp only[YR] at h;split at h
    ·cases i with
     |none=>exact h.elim
     |some i =>
      obtain ⟨h1,h2⟩:=Se hR hJ hX (vs:=args.map a.eval) hb hs hi (vv hs args) h;refine U6 ?_ h2;simp only[execOp,resolve,Deferred.ofValue,Act.eval,Sem.run_bind,Sem.run_pure,Result.andThen_ok,invoke];rw[<- h1];simp
    ·exact plain h
   |global x =>
    simp only[YR,ev] at h;cases hgg:Up x<;>simp only[hgg] at h<;>exact plain h
   |tmp t =>
    simp only[YR] at h;split at h
    ·rename_i l' hev;cases i with
     |none=>exact h.elim
     |some i =>
      simp only at h;split at h
      case isFalse=>exact h.elim
      rename_i hc;rw[Bool.and_eq_true,Bool.and_eq_true] at hc;obtain ⟨ht,hl,hr⟩:=hc;obtain ⟨rfl,hy,hk1,hk2⟩:=h;have hf:=hs.eval (.tmp t);rw[hev] at hf;generalize hfe:a.eval (.tmp t)=u at hf;cases hf;have hargs:=vv hs args;have hargs':Rvs ρ none (AV.zb (args.toList.map (ev σ))) (args.map a.eval):=by
       refine⟨by rw[yu];exact hargs.1,fun j=>?_⟩;rw[yP];exact((hargs.2 j).zn (qU ht j)).norm
      obtain ⟨hbn,hst⟩:=hb.next hs hr;obtain ⟨fn,tmps,assign,body,h1,h2⟩:=hR _ _ i _ _ w hy (hJ _ _ _ _ _ _ _ hi hst) hargs' hs.ro;have hex:(execOp a.eval { dst,op:=.call ⟨.value (.tmp t),args,ats⟩,type,pos,after,guard }).run P w=.ok (.round l' fn tmps assign body) w:=by
       simp only[execOp,resolve,Deferred.ofValue,hfe,Sem.run_bind,Sem.run_pure,Result.andThen_ok,invoke];simp[h1]
      refine Fe hex h2 ?_;rintro e W' ⟨hk,hres⟩;have hsat:=hs.held hl hr (RO.le_refl ρ) hk.ro (fun b x hx h0=>hs.sep b _ (yi hx) h0) fun b x hx=>hs.zI hl hr (RO.le_refl ρ) hx fun h0=>hk.box _ (.inl ((qw hr).2 ⟨b,x,hx,h0,rfl⟩))
      rcases hres with ⟨rfl,hj⟩ | ⟨rfl,hj⟩
      ·exact⟨_,rfl,some (i+1),_,_,W',_,_,_,hbn.kept hk,hsat.put (.tt _),hj,hk1⟩
      ·exact⟨_,rfl,none,_,_,W',_,_,_,hbn.kept hk,hsat.put (.ff _),hj,hk2⟩
    ·rename_i g first caps hev;split at h
     ·cases i with
      |none=>exact h.elim
      |some i=>exact clos g first caps i hev hi h
     ·exact plain h
    ·exact plain h
   |const t =>
    simp only[YR] at h;split at h
    ·rename_i l' hev;exfalso;have:∀v,ofV v≠.yld l':=by
      intro v hv;cases v<;>simp only[ofV,ofV1] at hv<;>(repeat' split at hv)<;>cases hv
     exact this _ hev
    ·rename_i g first caps hev;split at h
     ·cases i with
      |none=>exact h.elim
      |some i=>exact clos g first caps i hev hi h
     ·exact plain h
    ·exact plain h
  |invoke r name=>simp only[YR] at h;exact plain h
  |builtin b=>simp only[YR] at h;exact plain h
 |_=>simp only[YR] at h;exact plain h
end
section
variable {n M l:Nat} {μS:Lay} {ρS:RO} {wS:World} {Tf:Nat->Prop} {J:ItJ} {Jx:ItX}
def InZ (n M:Nat) (μS:Lay) (ρS:RO) (wS:World) (Tf:Nat->Prop) (J:ItJ) (Jx:ItX) (i:Option Nat) (σ:St) (a:Act) (w:World):Prop :=
 ∃μ0 ρ0 W ρ μ,Yr n M μS ρS wS Tf μ0 ρ0 W/\Sat [] (n+M) μ0 ρ0 W ρ μ σ a w/\HZ J Jx i ρ0 (TB (n+M) μ0 Tf) W
theorem InZ.zq {i:Option Nat} {σ:St} {a:Act} {w:World} {K:Option Nat->St->Prop} (h:InZ n M μS ρS wS Tf J Jx i σ a w) (hk:K i σ):AtZ n M μS ρS wS Tf J Jx K a w:=by
 obtain ⟨μ0,ρ0,W,ρ,μ,hb,hs,hi⟩:=h;exact⟨i,μ0,ρ0,W,ρ,μ,σ,hb,hs,hi,hk⟩
theorem AtZ.zU {a:Act} {w:World} {K:Option Nat->St->Prop} (h:AtZ n M μS ρS wS Tf J Jx K a w):∃i σ,InZ n M μS ρS wS Tf J Jx i σ a w/\K i σ:=by
 obtain ⟨i,μ0,ρ0,W,ρ,μ,σ,hb,hs,hi,hk⟩:=h;exact⟨i,σ,⟨μ0,ρ0,W,ρ,μ,hb,hs,hi⟩,hk⟩
theorem InZ.skip {i:Option Nat} {σ:St} {a:Act} {w:World} (h:InZ n M μS ρS wS Tf J Jx i σ a w) (d:Option Nat):InZ n M μS ρS wS Tf J Jx i (σ.put d (.tup [])) (a.put d Go.undef) w:=by
 obtain ⟨μ0,ρ0,W,ρ,μ,hb,hs,hi⟩:=h;exact⟨μ0,ρ0,W,ρ,μ,hb,hs.put (.tup _ _ #[] rfl (fun j=>.undef ..)),hi⟩
theorem InZ.clean {i:Option Nat} {σ:St} {a:Act} {w:World} (h:InZ n M μS ρS wS Tf J Jx i σ a w) (keep:List Nat):InZ n M μS ρS wS Tf J Jx i (clean keep σ) a w:=by
 obtain ⟨μ0,ρ0,W,ρ,μ,hb,hs,hi⟩:=h;exact⟨μ0,ρ0,W,ρ,μ,hb,hs.clean keep,hi⟩
variable {P:Program} {frs:Ways} {il:vZ} {Y:Nat->List AV->Prop}
theorem TN (hil:kG P il) (hR:Wy P l J Jx Y) (hJ:xw J) (hX:vw Jx) {ops:Array Oper} {o:Oper} {i:Option Nat} {σ:St} {a:Act} {w:World} {K:Option Nat->St->Prop} {Q:Exit->Act->World->Prop} {N:Act->World->Prop}
  (hz:InZ n M μS ρS wS Tf J Jx i σ a w) (h:IC P (yj P frs il) n M l Y (jK P l) (qi ops.toList) o i σ K) (hN:∀a w,AtZ n M μS ρS wS Tf J Jx K a w->N a w) :
  (Region.wanted o (yielded ops a.tmps)=true/\o.wpIn (Fr none) 0 P a w N Q)\/(Region.wanted o (yielded ops a.tmps)=false/\N (a.put o.dst Go.undef) w):=by
 obtain ⟨μ0,ρ0,W,ρ,μ,hb,hs,hi⟩:=hz;have run:∀σ,Sat [] (n+M) μ0 ρ0 W ρ μ σ a w->YR P (yj P frs il) n M l Y (jK P l) o i σ K->o.wpIn (Fr none) 0 P a w N Q:=fun σ hs h=>Oper.wpIn_mono hN (Me hil hR hJ hX hb hs hi h)
 have skip:∀σ,Sat [] (n+M) μ0 ρ0 W ρ μ σ a w->K i (σ.put o.dst (.tup []))->N (a.put o.dst Go.undef) w:=fun σ hs h=>hN _ _ ((InZ.skip ⟨μ0,ρ0,W,ρ,μ,hb,hs,hi⟩ o.dst).zq h)
 unfold IC at h;split at h
 ·rename_i hg;exact .inl ⟨by simp[Region.wanted,hg],run σ hs h⟩
 ·rename_i j want hg;split at h
  ·rename_i d hdj;obtain ⟨y1,y2⟩:=YM hdj hs;have hw:∀b,yielded ops a.tmps j=some b->Region.wanted o (yielded ops a.tmps)=(b == want):=by
    intro b hb;simp only[Region.wanted,hg,hb];cases b<;>cases want<;>rfl
   split at h
   ·rename_i ht;obtain ⟨h1,h2⟩:=y1 true (by rw[ht];rfl);split at h
    ·rename_i hwant;exact .inl ⟨by rw[hw _ h1];simp[hwant],run σ hs h⟩
    ·rename_i hwant;exact .inr ⟨by rw[hw _ h1];cases want<;>simp_all,skip σ hs h⟩
   ·rename_i ht;obtain ⟨h1,h2⟩:=y1 false (by rw[ht];rfl);split at h
    ·rename_i hwant;exact .inr ⟨by rw[hw _ h1];cases want<;>simp_all,skip σ hs h⟩
    ·rename_i hwant;exact .inl ⟨by rw[hw _ h1];cases want<;>simp_all,run σ hs h⟩
   ·rename_i b ht;obtain ⟨h1,h2⟩:=y1 b (by rw[ht];rfl);have htrue:b=true->Sat [] (n+M) μ0 ρ0 W ρ μ (σ.put (some d) .tt) a w:=fun hb=>hs.zx (by rw[h2,hb];exact .tt _)
    have hfalse:b=false->Sat [] (n+M) μ0 ρ0 W ρ μ (σ.put (some d) .ff) a w:=fun hb=>hs.zx (by rw[h2,hb];exact .ff _)
    split at h
    ·rename_i hwant;cases hb:b with
     |true=>exact .inl ⟨by rw[hw _ h1,hb,hwant];rfl,run _ (htrue hb) (h.1 hb)⟩
     |false=>exact .inr ⟨by rw[hw _ h1,hb,hwant];rfl,skip _ (hfalse hb) (h.2 hb)⟩
    ·rename_i hwant;have hwant:want=false:=by simpa using hwant
     cases hb:b with
     |true=>exact .inr ⟨by rw[hw _ h1,hb,hwant];rfl,skip _ (htrue hb) (h.1 hb)⟩
     |false=>exact .inl ⟨by rw[hw _ h1,hb,hwant];rfl,run _ (hfalse hb) (h.2 hb)⟩
   ·rename_i ht;have h1:=y2 ht;refine .inr ⟨?_,skip σ hs h⟩;simp only[Region.wanted,hg,h1];cases want<;>rfl
   ·exact h.elim
  ·exact h.elim
variable (hil:kG P il) (hR:Wy P l J Jx Y) (hJ:xw J) (hX:vw Jx)
include hil hR hJ hX
theorem P7 {ops:Array Oper} {K:Option Nat->St->Prop} {Q:Exit->Act->World->Prop} (hQ:∀a w,AtZ n M μS ρS wS Tf J Jx K a w->Q .normal a w) :
  ∀(r:List Oper) (k:Nat) (i:Option Nat) (σ:St) (a:Act) (w:World),ops.toList.drop k=r->InZ n M μS ρS wS Tf J Jx i σ a w->Nn P (yj P frs il) n M l Y (jK P l) (qi ops.toList) r i σ K ->
   wpOpsIn (Fr none) 0 P ops Q (List.range' k r.length) a w:=by
 intro r;induction r with
 |nil=>intro k i σ a w _ hz h;exact hQ a w (hz.zq h)
 |cons o r ih =>
  intro k i σ a w hd hz h;have ho:ops[k]? = some o:=by
   have:(ops.toList.drop k)[0]? = some o:=by rw[hd];rfl
   simpa using this
  have hr:ops.toList.drop (k+1)=r:=by
   have:(ops.toList.drop k).drop 1=r:=by rw[hd];rfl
   rw[List.drop_drop] at this;rw[<- this,Nat.add_comm]
  rw[List.length_cons,List.range'_succ];refine YL ho ?_;simp only[Nn] at h;refine TN hil hR hJ hX hz h ?_;intro a w hat;obtain ⟨i,σ,hz,h⟩:=hat.zU;exact ih (k+1) i σ a w hr hz h
theorem Lh {ops:Array Oper} {K:Option Nat->St->Prop} {Q:Exit->Act->World->Prop} (hQ:∀a w,AtZ n M μS ρS wS Tf J Jx K a w->Q .normal a w) :
  ∀(fin seen:List Nat) (listed:Array Bool) (i:Option Nat) (σ:St) (a:Act) (w:World),Wq ops fin seen=true->fin.Nodup->listed.size=ops.size->(∀i,i<ops.size->(listed.getD i true=false↔i∈fin))->(∀x∈seen,x∉fin)->kI ops listed ->
   InZ n M μS ρS wS Tf J Jx i σ a w->Jv P (yj P frs il) n M l Y (jK P l) ops fin i σ K->wpAnyIn (Fr none) 0 P .any ops Q fin.length listed a w:=by
 intro fin;induction fin with
 |nil =>
  intro seen listed i σ a w _ _ hls hl _ _ hz h;refine⟨?_,hQ a w (hz.zq h)⟩;rw[List.eq_nil_iff_forall_not_mem];intro j hj;obtain ⟨h1,o,ho,_⟩:=mem_ready.1 hj;have:=(hl j (Array.getElem?_eq_some_iff.1 ho).1).1 h1;cases this
 |cons q r ih =>
  intro seen listed i σ a w hok hnd hls hl hseen hcl hz h;have hok':=hok;simp only[Wq,Bool.and_eq_true] at hok;obtain ⟨⟨f1,f2⟩,f3⟩:=hok;unfold Jv at h;split at h
  case h_2=>exact h.elim
  rename_i o ho;rw[ho] at f1;have hlt:=(Array.getElem?_eq_some_iff.1 ho).1;have hrl:q∈Region.ready .any ops listed:=by
   refine mem_ready.2 ⟨(hl q hlt).2 (by simp),o,ho,fun e he hbd=>?_⟩;have he':=List.all_eq_true.1 f1 e (by simpa using he);simp only[Bool.and_eq_true,decide_eq_true_eq,List.contains_iff_mem] at he';cases hg:listed.getD e.on false with
   |true=>rfl
   |false =>
    have hlt':e.on<listed.size:=by omega
    have h3:listed.getD e.on true=false:=by
     simp only[Array.getD,dif_pos hlt'] at hg ⊢;exact hg
    exact absurd ((hl e.on he'.1).1 h3) (hseen _ he'.2)
  refine⟨fun hnil=>(by rw[hnil] at hrl;cases hrl),fun j hj=>?_⟩;obtain ⟨g1,oj,hoj,_⟩:=mem_ready.1 hj;have hjf:=(hl j (Array.getElem?_eq_some_iff.1 hoj).1).1 g1;have hjl:j=q:=by
   rcases List.mem_cons.1 hjf with h | h
   ·exact h
   ·exfalso;obtain ⟨s',h1,h2⟩:=Ya r (q::seen) j f3 h;have h3:=u7 hls hcl hj h2 q (h1 q (by simp)) hlt;have h4:=(hl q hlt).2 (by simp);rw[h3] at h4;cases h4
  subst hjl;have hnext:∀a w,AtZ n M μS ρS wS Tf J Jx (fun i σ=>Jv P (yj P frs il) n M l Y (jK P l) ops r i σ K) a w->wpAnyIn (Fr none) 0 P .any ops Q r.length (listed.setIfInBounds j true) a w:=by
   intro a w hat;obtain ⟨i,σ,hz,h⟩:=hat.zU;refine ih (j::seen) _ i σ a w f3 (List.nodup_cons.1 hnd).2 (by simp[hls]) (fun i hi=>?_) (fun x hx=>?_) (hcl.set hls hj) hz h
   ·by_cases hij:i=j
    ·subst hij;simp[Array.getD,hls,hi,(List.nodup_cons.1 hnd).1]
    ·rw[getD_set_ne true (Ne.symm hij),hl i hi];simp[hij]
   ·rcases List.mem_cons.1 hx with rfl | hx
    ·exact(List.nodup_cons.1 hnd).1
    ·exact fun hm=>hseen x hx (List.mem_cons_of_mem _ hm)
  unfold wpOpIn;simp only[ho];rcases TN (Q:=Q) hil hR hJ hX hz h hnext with ⟨hw,h⟩ | ⟨hw,h⟩
  ·rw[if_pos hw];exact h
  ·rw[hw];exact⟨fun _ _=>trivial,h⟩
omit hil hR hJ hX in
theorem Il {w:Ways} {ops:Array Oper}:∀(l:List Nat),(Yw w ops l).1++(Yw w ops l).2=l:=by
 intro l;induction l with
 |nil=>rfl
 |cons i r ih =>
  unfold Yw;have key:∀b:Bool,(if b=true then (([]:List Nat),i::r) else (i::(Yw w ops r).1,(Yw w ops r).2)).1++(if b=true then (([]:List Nat),i::r) else (i::(Yw w ops r).1,(Yw w ops r).2)).2=i::r:=by
   intro b;cases b
   ·rw[if_neg (by decide)];show i::((Yw w ops r).1++(Yw w ops r).2)=_;rw[ih]
   ·rw[if_pos rfl];rfl
  exact key _
theorem Oj {ops:Array Oper} {id:Nat} {ord:List Nat} {K:Option Nat->St->Prop} {Q:Exit->Act->World->Prop} {i:Option Nat} {σ:St} {a:Act} {w:World} (hm:P.follows .mixedOrders=true) (hQ:∀a w,AtZ n M μS ρS wS Tf J Jx K a w->Q .normal a w)
  (hz:InZ n M μS ρS wS Tf J Jx i σ a w) (hfr:(ud frs ops).all (fun d=>vG (n+M) d σ)=true) (hord:T9 ops ord=true) (h:Km P (yj P frs il) n M l Y (jK P l) ops ord i σ K):(Code.region id ops true).wpIn (Fr none) 0 P Q a w:=by
 obtain ⟨μ0,ρ0,W,ρ,μ,hb,hs,hi⟩:=hz;refine wpIn_region_any hm ?_;simp only[T9,Bool.and_eq_true,decide_eq_true_eq,beq_iff_eq] at hord;obtain ⟨⟨⟨o1,o2⟩,o3⟩,o4⟩:=hord;have hin:∀i,i<ops.size->i∈ord:=fun i hi=>by
  have:=List.all_eq_true.1 o1 i (List.mem_range.2 hi);simpa only[List.contains_eq_mem,decide_eq_true_eq] using this
 have hcl0:kI ops (Array.replicate ops.size false):=fun i o ho h=>by
  have hi:=(Array.getElem?_eq_some_iff.1 ho).1;simp[Array.getD,hi] at h
 unfold Km at h;simp only[jZ] at h;split at h
 case isFalse=>exact h.elim
 rename_i hf;have hsplit:=Il (w:=(yj P frs il).frs) (ops:=ops) ord;generalize (Yw (yj P frs il).frs ops ord).1=pre at h hf hsplit;generalize (Yw (yj P frs il).frs ops ord).2=fin at h hf hsplit;simp only[WC,Bool.and_eq_true] at hf;obtain ⟨f2,f3⟩:=hf;obtain ⟨t,σk,h1,h2,h3,h4,h5,h6,h7⟩:=Yy pre [] σ h;have hnd:(pre++fin).Nodup:=by rw[hsplit];exact o2
 have hsz:t.length+fin.length=ops.size:=by
  have e1:=congrArg List.length h1;have e2:=congrArg List.length hsplit;simp only[List.length_map,List.length_append] at e1 e2;omega
 have hmem:∀i,i<ops.size->i∈pre\/i∈fin:=fun i hi=>by
  have:=hin i hi;rw[<- hsplit] at this;exact List.mem_append.1 this
 have hdis:∀i,i∈pre->i∉fin:=fun i h1 h2=>(List.nodup_append.1 hnd).2.2 i h1 i h2 rfl
 suffices h:wpAnyIn (Fr none) 0 P .any ops Q (t.length+fin.length) (Array.replicate ops.size false) a w.drew by rw[hsz] at h;exact h
 refine XA hil (σk:=σk) (L:=σ.sl.length) (fin:=fin) ?_ ?_ ?_ t.length t _ ρ μ σ a _ rfl rfl (hs.drawn _) h2 h4 h6 (fun s hs d hd=>?_) ?_ (by simp) ?_ ?_ hcl0
 ·intro listed ρ μ a w hls hcl hl hs;exact Lh hil hR hJ hX hQ fin pre.reverse listed i σk a w f2 (List.nodup_append.1 hnd).2.1 hls hl (fun x hx=>hdis x (List.mem_reverse.1 hx)) hcl ⟨μ0,ρ0,W,ρ,μ,hb,hs,hi⟩ h3
 ·intro listed j hls hcl hj hrd i hi hil';rcases hmem i hi with h | h
  ·exfalso;obtain ⟨s',g1,g2⟩:=Ya fin pre.reverse j f2 hj;have:=u7 hls hcl hrd g2 i (g1 i (List.mem_reverse.2 h)) hi;rw[hil'] at this;cases this
  ·exact h
 ·intro i o hi ho e he hbd hmem';have h':=(hmem i (Array.getElem?_eq_some_iff.1 ho).1).resolve_right hi;have:=List.all_eq_true.1 f3 i h';rw[ho] at this;have:=List.all_eq_true.1 this e he;simp[hbd,hmem'] at this
 ·exact XP (List.all_eq_true.1 hfr d (h7 s hs d hd))
 ·rw[h1];exact(List.nodup_append.1 hnd).1
 ·intro i hi;rw[h1];simp[Array.getD,hi,hmem i hi]
 ·rw[h1];exact hdis
omit hil hR hJ hX in
theorem Lg {σ0 σ1:St}:∀ {l:List Nat},Jq σ0 σ1 l->∀t∈l,σ1.sl.getD t .undef=σ0.sl.getD t .undef:=by
 intro l;induction l with
 |nil=>intro _ t h;cases h
 |cons x r ih =>
  intro h t ht;rcases List.mem_cons.1 ht with rfl | ht
  ·exact h.1
  ·exact ih h.2 t ht
theorem Tv {ctl:Ctl}:∀(c:Code) (K:Ex->Option Nat->St->Prop) (Q:Exit->Act->World->Prop) (i:Option Nat) (σ:St) (a:Act) (w:World),
  (∀e a w,AtZ n M μS ρS wS Tf J Jx (K e) a w->Q (Ex.to e) a w)->InZ n M μS ρS wS Tf J Jx i σ a w->Ye P (yj P frs il) n M l Y (jK P l) ctl c i σ K->c.wpIn (Fr none) 0 P Q a w:=by
 intro c;induction c with
 |skip=>intro K Q i σ a w hQ hz h;exact wpIn_skip (hQ .normal a w (hz.zq h))
 |region id ops draw =>
  intro K Q i σ a w hQ hz h;have hcl:∀a w,AtZ n M μS ρS wS Tf J Jx (fun i σ=>K .normal i (clean ctl.keep σ)) a w->Q .normal a w:=fun a w hat=>by
   obtain ⟨i,σ,hz,h⟩:=hat.zU;exact hQ .normal a w ((hz.clean ctl.keep).zq h)
  obtain ⟨μ0,ρ0,W,ρ,μ,hb,hs,hi⟩:=hz;cases draw with
  |true =>
   simp only[Ye,wU,jZ] at h;obtain ⟨ρ',σ',hs',h⟩:=kj hs h;split at h
   case isFalse=>exact h.elim
   rename_i hc;rw[Bool.and_eq_true,Bool.and_eq_true] at hc;exact Oj hil hR hJ hX hc.1 hcl ⟨μ0,ρ0,W,ρ',μ,hb,hs',hi⟩ hc.2.1 hc.2.2 h
  |false =>
   simp only[Ye,wU] at h;obtain ⟨ρ',σ',hs',h⟩:=kj hs h;refine wpIn_region ?_;have:=P7 hil hR hJ hX (ops:=ops) (Q:=Q) hcl ops.toList 0 i σ' a w rfl ⟨μ0,ρ0,W,ρ',μ,hb,hs',hi⟩ h;rw[List.range_eq_range'];simpa using this
 |seq x y ihx ihy =>
  intro K Q i σ a w hQ hz h;simp only[Ye] at h;refine wpIn_seq (ihx _ _ i σ a w ?_ hz h);intro e a w hat;obtain ⟨i,σ,hz,h⟩:=hat.zU;cases e with
  |normal=>exact ihy K Q i σ a w hQ hz h
  |exit id=>exact hQ (.exit id) a w (hz.zq h)
  |ret=>exact hQ .ret a w (hz.zq h)
 |cond c x y ihx ihy =>
  intro K Q i σ a w hQ hz h;have hc:∃ρ μ,Rv ρ (some μ) (ev σ c) (a.eval c):=by
   obtain ⟨μ0,ρ0,W,ρ,μ,hb,hs,hi⟩:=hz;exact⟨ρ,μ,hs.eval c⟩
  obtain ⟨ρ,μ,hc⟩:=hc;simp only[Ye] at h;split at h
  ·rename_i hh;rw[hh] at hc;generalize hcc:a.eval c=u at hc;cases hc;exact wpIn_cond_true hcc (ihx K Q i σ a w hQ hz h)
  ·rename_i hh;rw[hh] at hc;generalize hcc:a.eval c=u at hc;cases hc;exact wpIn_cond_false hcc (ihy K Q i σ a w hQ hz h)
  ·rename_i b hh;rw[hh] at hc;generalize hcc:a.eval c=u at hc;cases hc;exact wpIn_cond_split hcc (fun hb=>ihx K Q i σ a w hQ hz (h.1 hb)) (fun hb=>ihy K Q i σ a w hQ hz (h.2 hb))
  ·exact h.elim
 |block id b ih =>
  intro K Q i σ a w hQ hz h;refine wpIn_block (ih _ _ i σ a w ?_ hz h);intro e a w hat;obtain ⟨i,σ,hz,h⟩:=hat.zU;cases e with
  |normal=>exact hQ .normal a w (hz.zq h)
  |exit j =>
   simp only[Ex.to,Exit.inBlock];split
   ·rename_i hj;simp only[hj,if_true] at h;exact hQ .normal a w (hz.zq h)
   ·rename_i hj;simp only[hj,if_false] at h;exact hQ (.exit j) a w (hz.zq h)
  |ret=>exact hQ .ret a w (hz.zq h)
 |loop b ih =>
  intro K Q i σ a w hQ hz h;simp only[Ye] at h;split at h
  case h_2=>exact h.elim
  rename_i p0 hp;generalize p0.res (n+M) σ=p at h;unfold HI at h;split at h
  ·exact h.elim
  rename_i i0;split at h
  case isFalse=>exact h.elim
  obtain ⟨I,he,hround⟩:=h;obtain ⟨gs,ls,bs,⟨m0,g1⟩,g2,g3,g4,g5⟩:=qv (P:=P) (n:=n+M) rfl (fun _ _ _=>rfl) (fun _=>rfl) he;have weak:∀ {i σ τ a w},InZ n M μS ρS wS Tf J Jx i σ a w->xQ (n+M) σ τ->InZ n M μS ρS wS Tf J Jx i τ a w:=by
   rintro i σ τ a w ⟨μ0,ρ0,W,ρ,μ,hb,hs,hi⟩ hw;obtain ⟨μ',hs'⟩:=hs.weaken hw;exact⟨μ0,ρ0,W,ρ,μ',hb,hs',hi⟩
  have key:∀(N m:Nat),m<N->∀(i:Nat) (gs:List AV) (ls:List (List AV)) (bs:List AV) (a:Act) (w:World),I m i (xz gs ls bs)->qZ (p.gen.map (·.2)) gs=true->ls.length=p.app.length+p.cap.length->qZ (p.bgen.map (·.2)) bs=true ->
    InZ n M μS ρS wS Tf J Jx (some i) (wL p.cap (qP P (n+M) (ctl.keep++qI σ.sl.length p.cap) (ctl.dsts b++qI σ.sl.length p.cap) (p.up σ.sl.length) (jM p.cap σ) gs ls bs)) a w->Code.roundsIn (Fr none) 0 P b Q N a w:=by
   intro N;induction N with
   |zero=>intro m hm;omega
   |succ N ihN =>
    intro m hm i gs ls bs a w g1 g2 g3 g4 hz';rw[roundsIn_succ];refine ih _ _ (some i) _ a w ?_ hz' (jV g2 g3 g4 (hround m i) g1);intro e a w hat;obtain ⟨j,σ1,hz1,h⟩:=hat.zU;cases e with
    |normal =>
     simp only at h;split at h
     ·rename_i j;obtain ⟨⟨hl,hsame⟩,h⟩:=h;obtain ⟨gs,ls,bs,⟨k,hk,g1⟩,g2,g3,g4,g5⟩:=qv (P:=P) (n:=n+M) hl (fun t h1 h2=>Lg hsame t (List.mem_filter.2 ⟨h1,by simpa using h2⟩)) (fun he=>by cases he) h;exact ihN k (by omega) j gs ls bs a w g1 g2 g3 g4 (weak hz1 g5)
     ·exact h.elim
    |exit id=>exact hQ (.exit id) a w (hz1.zq h)
    |ret=>exact hQ .ret a w (hz1.zq h)
  exact wpIn_loop_rounds (m0+1) (key (m0+1) m0 (Nat.lt_succ_self _) i0 gs ls bs a w g1 g2 g3 g4 (weak hz g5))
 |exit id=>intro K Q i σ a w hQ hz h;exact wpIn_exit (hQ (.exit id) a w (hz.zq h))
 |ret=>intro K Q i σ a w hQ hz h;exact wpIn_ret (hQ .ret a w (hz.zq h))
 |_=>intros;rename_i h;exact h.elim
end
def wG (n:Nat) (μ:Lay):Lay:=fun b=>if b<n then μ b else (0,0)
theorem vz {n M:Nat} {μ:Lay}:jz (wG n μ) (n+M)=jz μ n:=by
 funext k;apply propext;constructor
 ·rintro ⟨b,hb,hk,rfl⟩;unfold wG at hk ⊢;split at hk
  ·rename_i h;rw[if_pos h];exact⟨b,h,hk,rfl⟩
  ·exact absurd rfl hk
 ·rintro ⟨b,hb,hk,rfl⟩;refine⟨b,by omega,?_,?_⟩<;>unfold wG<;>rw[if_pos hb];exact hk
theorem Sat.zQ {fn:Func} {M:Nat} {args:List AV} {boxes:List Bx} {ρ:RO} {μ:Lay} {w:World} {vs:Array Value} (harr:boxes.all (fun x=>!x.arr)=true) (hl:yp (vg M fn args boxes)=true) (hgl:kJ ρ) (hro:∀k o,ρ k=some o->w.heap[k]? = some o)
  (hbox:∀b cs,(boxes.map (·.cs))[b]? = some cs->vQ ρ (some μ) μ w b cs) (hinj:∀b b',b<boxes.length->b'<boxes.length->b≠b'->(μ b).2≠0->(μ b').2≠0->(μ b).1≠(μ b').1)
  (hsep:∀b,b<boxes.length->(μ b).2≠0->ρ (μ b).1=none) (hargs:Rvs ρ (some μ) args vs) :
  Sat [] (boxes.length+M) (wG boxes.length μ) ρ w ρ (wG boxes.length μ) (vg M fn args boxes) { tmps:=vs++Array.replicate (fn.ntmps-vs.size) Go.undef,defers:=[] } w:=by
 have e:(vg M fn args boxes).bx=boxes.map some++List.replicate (M+M) none:=by
  simp only[vg,List.append_assoc,List.replicate_append_replicate]
 have hbx:∀b x,(vg M fn args boxes).bx.getD b none=some x->b<boxes.length/\boxes[b]? = some x:=by
  intro b x hx;rw[e] at hx;simp only[List.getD,List.getElem?_append,List.length_map,List.getElem?_map] at hx;split at hx
  ·rename_i hlt;cases hg:boxes[b]? with
   |none=>simp[hg] at hx
   |some y=>simp only[hg,Option.map_some,Option.getD_some,Option.some.injEq] at hx;exact⟨hlt,by rw[hx]⟩
  ·rename_i hlt;have:(List.replicate (M+M) (none:Option Bx))[b-boxes.length]?.getD none=none:=by
    cases hg:(List.replicate (M+M) (none:Option Bx))[b-boxes.length]? with
    |none=>rfl
    |some y=>exact(List.eq_of_mem_replicate (List.mem_of_getElem? hg))
   rw[this] at hx;cases hx
 have hlive:∀b cs,(vg M fn args boxes).box b=some cs->b<boxes.length:=by
  intro b cs h;obtain ⟨x,hx,-⟩:=yK h;exact(hbx b x hx).1
 have hs0:∀b,b<boxes.length->wG boxes.length μ b=μ b:=fun b hb=>if_pos hb
 simp only[yp,Bool.and_eq_true,List.all_eq_true] at hl;have hlv:∀b,qh (vg M fn args boxes).bx b=true->b<boxes.length:=fun b hb=>by
  obtain ⟨x,hx⟩:=qL hb;exact(hbx b x hx).1
 refine { gl:=hgl,dfe:=rfl,defs:=.nil _ _ _,sz:=?_,sl:=?_,box:=?_,inj:=?_,sep:=?_,own:=?_,inc:=fun _ _=>rfl,ro:=hro,le:=RO.le_refl ρ,new:=?_,frame:=fun _ _ _=>rfl,size:=Nat.le_refl _,os:=rfl,tape:=rfl,output:=rfl }
 ·simp only[vg,List.length_append,List.length_replicate,Array.size_append,Array.size_replicate,hargs.1]
 ·have h2:Rvs ρ (some μ) (List.replicate (fn.ntmps-args.length) .undef) (Array.replicate (fn.ntmps-vs.size) Go.undef):=by
   refine⟨by simp[hargs.1],fun j=>?_⟩;have:(List.replicate (fn.ntmps-args.length) AV.undef).getD j .undef=.undef:=by
    simp only[List.getD];cases hg:(List.replicate (fn.ntmps-args.length) AV.undef)[j]? with
    |none=>rfl
    |some y=>exact List.eq_of_mem_replicate (List.mem_of_getElem? hg)
   rw[this];exact .undef ..
  intro t;exact((jc hargs h2).2 t).lay fun b hb=>hs0 b (hlv b (hl.1 b (yT hb)))
 ·intro b x hx;obtain ⟨h1,h2⟩:=hbx b x hx;obtain ⟨k1,k2⟩:=hbox b x.cs (by simp[h2]);have ha:x.arr=false:=by
   have:=List.all_eq_true.1 harr x (List.mem_of_getElem? h2);simpa using this
  have hm:some x∈(vg M fn args boxes).bx:=by
   rw[e];exact List.mem_append_left _ (List.mem_map.2 ⟨x,List.mem_of_getElem? h2,rfl⟩)
  have hrf:=hl.2 _ hm;simp only[List.all_eq_true] at hrf;refine⟨by rw[hs0 b h1];exact k1,?_⟩;rw[hs0 b h1];rcases k2 with k2 | ⟨o,k3,k5⟩
  ·exact .inl k2
  ·refine .inr ⟨o,k3,k5.imp rfl (fun j cv h6=>?_) (hl:=by rw[qD,ha];rfl)⟩;unfold lev;rw[if_neg (by simp[ha])];exact h6.lay fun c hc=>hs0 c (hlv c (hrf c (by unfold Bx.refs;rw[if_neg (by simp[ha])];exact yT hc)))
 ·intro b b' cs cs' h h' hne hk hk';have h1:=hlive b cs h;have h2:=hlive b' cs' h';rw[hs0 b h1] at hk ⊢;rw[hs0 b' h2] at hk' ⊢;exact hinj b b' h1 h2 hne hk hk'
 ·intro b cs h hk;have h1:=hlive b cs h;rw[hs0 b h1] at hk ⊢;exact hsep b h1 hk
 ·intro b cs h _ hn;have:=hlive b cs h;omega
 ·intro k o h h0;rw[h0] at h;cases h
theorem Yr.start {n M:Nat} {μ:Lay} {ρ:RO} {w:World} {Tf:Nat->Prop} (h:∀k,Tf k->k<w.heap.size/\ρ k=none/\¬ jz μ n k):Yr n M μ ρ w Tf (wG n μ) ρ w :=
 {lay:=fun c hc=>if_pos hc
  res:=fun c h1 _ h3=>by unfold wG at h3;rw[if_neg (by omega)] at h3;exact absurd rfl h3
  le:=RO.le_refl ρ
  new:=fun k o h1 h0=>by rw[h0] at h1;cases h1
  frn:=fun k hk=>by
   obtain ⟨h1,h2,h3⟩:=h k hk;exact⟨h1,h2,by rw[vz];exact h3,rfl⟩
  size:=Nat.le_refl _
  os:=rfl
  tape:=rfl
  output:=rfl }
theorem G0 {P:Program} {f:FuncId} {fn:Func} {ctl:Ctl} {args:List AV} {boxes:List Bx} {xs:List (List AV)} {M:Nat} (hf:P.funcs[f]? = some fn) (hcall:∀(vs:Array Value) (w:World),(callFunc f vs).run P w=.ok (.enter f vs) w)
  (harr:boxes.all (fun x=>!x.arr)=true) (hres:fn.results=#[]) {frs:Ways} {il:vZ} (hil:kG P il) (h:∀l,Qs P (yj P frs il) boxes.length M l (fun i x=>xs[i]? = some x) (jK P l) ctl fn args boxes xs.length):xv P f args (boxes.map (·.cs)) xs:=by
 refine⟨hcall,fun ρ μ w vs l J Jx hgl hro hbox hinj hsep hargs hJ hJx hround h0=>?_⟩;have h:=h l;unfold Qs at h;cases hb:fn.body with
 |none=>simp[hb] at h
 |some c =>
  rw[hb] at h;simp only at h;split at h
  case isFalse=>exact h.elim
  rename_i hlive;have hl:(boxes.map (·.cs)).length=boxes.length:=by simp
  rw[hl] at hinj hsep h0;refine callsIn_wide.1 (callsIn_of_wp_marks (F:=Fence.wide) (n:=0) hf hb trivial ?_);have hs:=Sat.zQ (fn:=fn) (M:=M) harr hlive hgl hro hbox hinj hsep (jc (Nk (.yld _ l)) hargs);have hT:TB (boxes.length+M) (wG boxes.length μ) (fun _=>False)=jz μ boxes.length:=by
   funext k;simp only[TB,vz,or_false]
  refine Tv (μS:=μ) (ρS:=ρ) (wS:=w) (Tf:=fun _=>False) hil hround hJ hJx c _ _ (some 0) _ _ w ?_ ⟨wG boxes.length μ,ρ,w,ρ,_,Yr.start (fun k hk=>hk.elim),hs,by rw[hT];exact h0⟩ h;intro e a w' hat;obtain ⟨i,σ',⟨μ0,ρ0,W,ρ',μ',hb',hs',hi⟩,h'⟩:=hat.zU;have fin:(if yp σ' && vW boxes.length M σ' then Kr xs.length i else False)->LeavesInM Fence.wide 0 P fn a.tmps (fun e W'=>(∃v,e=.returned v)/\∃ρ' T',J ρ' T' xs.length W'\/Jx ρ' T' W') a.defers .returning w':=fun h'=>by
   have ha:a=⟨a.tmps,[]⟩:=by have:=hs'.dfe;cases a;simp_all
   have hd:=hs'.dfe;rw[ha] at hs';rw[hd];split at h'
   case isFalse=>exact h'.elim
   rename_i hc;rw[Bool.and_eq_true] at hc;refine Sat.leaves (fun ρ2 tmps w2 hs2=>?_) [] a.tmps ρ' w' hs';refine⟨.tuple #[],by simp[results,hres],⟨_,rfl⟩,?_⟩;obtain ⟨-,hst⟩:=hb'.next hs2 hc.2;have hi2:=hi.step hJ hJx hst;cases i with
   |some i=>have h':i=xs.length:=h';subst h';exact⟨_,_,.inl hi2⟩
   |none=>exact⟨_,_,.inr hi2⟩
  cases e with
  |normal=>exact fin h'
  |exit id=>exact h'.elim
  |ret=>exact fin h'
theorem Jl {P:Program} {fn:Func} {ds:List Deferred} {n:Nat} {μ0:Lay} {ρ0:RO} {w0:World} {ρ:RO} {μ:Lay} {σ:St} {a:Act} {w:World} {v:AV} (hs:Sat ds n μ0 ρ0 w0 ρ μ σ a w) (hv:fn.results.toList.mapM (Tp P σ)=some [v]) :
  ∃cv,(results fn a.tmps).run P w=.ok cv w/\Rv ρ (some μ) v cv:=by
 obtain ⟨cvs,h1,h2,h3⟩:=X5 (P:=P) hs _ _ hv;refine⟨(if h:cvs.toArray.size=1 then cvs.toArray[0] else .tuple cvs.toArray),?_,YH [v] cvs h2 h3⟩;unfold results;rw[Sem.run_bind,Array.mapM_eq_mapM_toList];rw[Sem.run_map,h1 _ (fun t=>rfl) (fun b t=>rfl)];rfl
theorem GZ {P:Program} {l:Nat} {f:FuncId} {fn:Func} {ctl:Ctl} {args:List AV} {boxes:List Bx} {xs:List (List AV)} {M:Nat} (hf:P.funcs[f]? = some fn) (hcall:∀(vs:Array Value) (w:World),(callFunc f vs).run P w=.ok (.enter f vs) w)
  (harr:boxes.all (fun x=>!x.arr)=true) {frs:Ways} {il:vZ} (hil:kG P il) (h:Ns P (yj P frs il) boxes.length M l (fun i x=>xs[i]? = some x) (jK P l) ctl fn args boxes xs.length):jK P l f args (boxes.map (·.cs)) xs:=by
 refine⟨hcall,fun ρ μ w vs J Jx i0 T hgl hro hbox hinj hbT hT hargs hJ hJx hround h0=>?_⟩;unfold Ns at h;cases hb:fn.body with
 |none=>simp[hb] at h
 |some c =>
  rw[hb] at h;simp only at h;split at h
  case isFalse=>exact h.elim
  rename_i hlive;have hl:(boxes.map (·.cs)).length=boxes.length:=by simp
  rw[hl] at hinj hbT;refine callsIn_wide.1 (callsIn_of_wp_marks (F:=Fence.wide) (n:=0) hf hb trivial ?_);have hs:=Sat.zQ (fn:=fn) (M:=M) harr hlive hgl hro hbox hinj (fun b hb hk=>(hT _ (hbT b hb hk)).2) hargs;have hTB:TB (boxes.length+M) (wG boxes.length μ) (fun k=>T k/\¬ jz μ boxes.length k)=T:=by
   funext k;apply propext;simp only[TB,vz];constructor
   ·rintro (⟨b,hb,hk,rfl⟩ | h)
    ·exact hbT b hb hk
    ·exact h.1
   ·intro h;rcases Classical.em (jz μ boxes.length k) with hk | hk
    ·exact .inl hk
    ·exact .inr ⟨h,hk⟩
  have hJ':xw (fun ρ T i W=>J ρ T (i0+i) W):=fun ρ T i W ρ' T' W' h hst=>hJ ρ T (i0+i) W ρ' T' W' h hst
  refine Tv (μS:=μ) (ρS:=ρ) (wS:=w) (Tf:=fun k=>T k/\¬ jz μ boxes.length k) (J:=fun ρ T i W=>J ρ T (i0+i) W) hil hround hJ' hJx c _ _ (some 0) _ _ w ?_ ⟨wG boxes.length μ,ρ,w,ρ,_,Yr.start (fun k hk=>⟨(hT k hk.1).1,(hT k hk.1).2,hk.2⟩),hs,by rw[hTB];exact h0⟩ h;intro e a w' hat;obtain ⟨i,σ',⟨μ0,ρ0,W,ρ',μ',hb',hs',hi⟩,h'⟩:=hat.zU;have fin:GW P boxes.length M fn (boxes.map (·.cs)) xs.length i σ'->LeavesInM Fence.wide 0 P fn a.tmps (fun e W'=>∃ρ' T',Ql ρ T μ (boxes.map (·.cs)) w ρ' T' W'/\((e=.returned (.bool true)/\J ρ' T' (i0+xs.length) W')\/(e=.returned (.bool false)/\Jx ρ' T' W'))) a.defers .returning w':=fun h'=>by
   have ha:a=⟨a.tmps,[]⟩:=by have:=hs'.dfe;cases a;simp_all
   have hd:=hs'.dfe;rw[ha] at hs';rw[hd];unfold GW at h';split at h'
   case h_2=>exact h'.elim
   rename_i v O' hv hO;split at h'
   case h_2=>exact h'.elim
   rename_i b hvb;split at h'
   case isFalse=>exact h'.elim
   rename_i hc;simp only[Bool.and_eq_true] at hc;obtain ⟨⟨hall,hr⟩,hrefs,harr'⟩:=hc;obtain ⟨hOO,hend,hbi⟩:=h';refine Sat.leaves (fun ρ2 tmps w2 hs2=>?_) [] a.tmps ρ' w' hs';obtain ⟨cv,hrun,hcv⟩:=Jl hs2 hv;have hcb:=wj hvb hcv;obtain ⟨hbn,hst⟩:=hb'.next hs2 hr;have hi2:=hi.step hJ' hJx hst;obtain ⟨hOl,hOb⟩:=UO hO;refine⟨cv,hrun,ρ2,TB (boxes.length+M) (jy boxes.length M σ' μ') (fun k=>T k/\¬ jz μ boxes.length k),?_,?_⟩
   ·have hcame:∀c,c<boxes.length->μ' c=μ c:=fun c hc=>(hs2.inc c (by omega)).trans (hb'.lay c hc)
    obtain ⟨r1,r2,r3⟩:=xj hr;refine { le:=hbn.le,ro:=hs2.ro,new:=hbn.new,keeps:=fun k hk=>?_,box:=fun b cs hbc=>?_,same:=fun k hk hnb=>?_,size:=hbn.size,os:=hbn.os,tape:=hbn.tape,output:=hbn.output }
    ·rcases Classical.em (jz μ boxes.length k) with hkb | hkb
     ·obtain ⟨b,hlt,hk0,rfl⟩:=hkb;obtain ⟨x,hx⟩:=qL (r2 b hlt);exact .inl ((qw hr).2 ⟨b,x,hx,by rw[hcame b hlt];exact hk0,by rw[hcame b hlt]⟩)
     ·exact .inr ⟨hk,hkb⟩
    ·rw[<- hOO] at hbc;have hlt:b<boxes.length:=by have:=(List.getElem?_eq_some_iff.1 hbc).1;omega
     obtain ⟨x,hx,rfl⟩:=yK (hOb b cs hbc);have hxa:x.arr=false:=by
      have:=List.all_eq_true.1 harr' b (List.mem_range.2 hlt);rw[hx] at this;simpa using this
     have hxr:∀c∈AV.zd x.cs,c<boxes.length:=by
      have:=List.all_eq_true.1 hrefs x.cs (List.mem_of_getElem? hbc);simpa only[List.all_eq_true,decide_eq_true_eq] using this
     obtain ⟨k1,k2⟩:=hs2.box b x hx;rw[hcame b hlt] at k1 k2;refine⟨k1,?_⟩;rcases k2 with k2 | ⟨o,k3,k5⟩
     ·exact .inl k2
     ·refine .inr ⟨o,k3,k5.imp rfl (fun j cv h6=>?_) (hl:=by rw[qD,hxa];rfl)⟩;unfold lev at h6;rw[if_neg (by simp[hxa])] at h6;exact h6.lay fun c hc=>(hcame c (hxr c (yT hc))).symm
    ·exact(hbn.frn k ⟨hk,by rw[hl] at hnb;exact hnb⟩).2.2.2
   ·cases i with
    |some i =>
     have hend:i=xs.length:=hend;subst hend;exact .inl ⟨by rw[hcb,hbi];rfl,hi2⟩
    |none=>exact .inr ⟨by rw[hcb,hbi];rfl,hi2⟩
  cases e with
  |normal=>exact fin h'
  |exit id=>exact h'.elim
  |ret=>exact fin h'
theorem Jw {P:Program} {ws:Ways} {k:Nat} {f:FuncId} {fn:Func} {ctl:Ctl} {args:List AV} {boxes:List Bx} {css:List (List AV)} {n M:Nat} {xs:List (List AV)} {R:Nat->Prop} (hm:P.follows .mixedOrders=true) (hil:wN P ws.il) (hf:P.funcs[f]? = some fn)
  (hcall:∀(vs:Array Value) (w:World),(callFunc f vs).run P w=.ok (.enter f vs) w) (hn:boxes.length=n) (hcs:boxes.map (·.cs)=css) (harr:boxes.all (fun x=>!x.arr)=true) (hres:fn.results=#[])
  (he:∀l,Qs P (mkS P (wB P) (jQ P) (xv P) ws k) n M l (fun i x=>xs[i]? = some x) (jK P l) ctl fn args boxes xs.length=R l) (h:∀l,R l):xv P f args css xs:=by
 subst hn;subst hcs;obtain ⟨il,h1,h2,h3⟩:=OM hm hil k;exact G0 (frs:=ws) hf hcall harr hres h2 fun l=>by have:=he l;rw[h1] at this;rw[this];exact h l
theorem GY {P:Program} {l:Nat} {ws:Ways} {k:Nat} {f:FuncId} {fn:Func} {ctl:Ctl} {args:List AV} {boxes:List Bx} {css:List (List AV)} {n M:Nat} {xs:List (List AV)} {R:Prop} (hm:P.follows .mixedOrders=true) (hil:wN P ws.il) (hf:P.funcs[f]? = some fn)
  (hcall:∀(vs:Array Value) (w:World),(callFunc f vs).run P w=.ok (.enter f vs) w) (hn:boxes.length=n) (hcs:boxes.map (·.cs)=css) (harr:boxes.all (fun x=>!x.arr)=true)
  (he:Ns P (mkS P (wB P) (jQ P) (xv P) ws k) n M l (fun i x=>xs[i]? = some x) (jK P l) ctl fn args boxes xs.length=R) (h:R):jK P l f args css xs:=by
 subst hn;subst hcs;subst he;obtain ⟨il,h1,h2,h3⟩:=OM hm hil k;rw[h1] at h;exact GZ (frs:=ws) hf hcall harr h2 h
end Go.Proofs.YtkojpnkknehhmaaGreatDoor

/- Functions that loops go over. -/
import Derived.Test.YtdeeekgohhkdbaaGreatDoorG1
namespace Go.Proofs.YtdeeekgohhkdbaaGreatDoor
open Go.RowKit
def Ia (Z0 Z1:St):List Nat->Prop
 |[]=>True
 |t::r=>Z1.sl.getD t .undef=Z0.sl.getD t .undef/\Ia Z0 Z1 r
def uj (n M:Nat) (Z:St):Bool:=(List.range M).all (fun j=>!qq Z.bx (n+j)) && ((List.range n).all (qq Z.bx) && decide (Z.bx.length=n+M+M))
def Jm (w:Ways) (g:FuncId):Bool:=w.ro.contains (g+998000000)
section
variable (P:Program) (S:Specs) (n M l:Nat) (Y:Nat->List AV->Prop) (Sg:FuncId->List AV->List (List AV)->List (List AV)->Prop)
def Ib (g:FuncId) (args:List AV) (d:Option Nat) (i:Nat) (Z:St) (K:Option Nat->St->Prop):Prop :=
 match (yG Z args).mapM (fun b=>Z.bx.getD b none) with
 |some bs=>if yE Z && (uj n M Z && Wf Z args (yG Z args)) then
   ∃xs:List (List AV),Sg g (AV.za (AV.zg (idx · (yG Z args)) args)) (bs.map fun x=>AV.za (AV.zg (idx · (yG Z args)) x.cs)) xs/\(∀(j:Nat) (x:List AV),xs[j]? = some x->Y (i+j) x) /\
    K (some (i+xs.length)) (Z.put d .tt)/\K none (Z.put d .ff)
  else False
 |none=>False
def Y7 (o:Oper) (i:Option Nat) (Z:St) (K:Option Nat->St->Prop):Prop :=
 match o.op with
 |.call c =>
  match c.callee with
  |.value (.func f)=>if Jm S.frs f then (match i with
    |some i=>Ib n M Y Sg f (c.args.toList.map (ev Z)) o.dst i Z K
    |none=>False) else aop P S (n+M) o Z (K i)
  |.value f=>match ev Z f with
   |.yld l'=>(match i with
    |some i=>if AV.zi (c.args.toList.map (ev Z)) && (yE Z && uj n M Z) then
      l'=l/\Y i (AV.za (c.args.toList.map (ev Z)))/\K (some (i+1)) (Z.put o.dst .tt)/\K none (Z.put o.dst .ff) else False
    |none=>False)
   |.fn g first caps=>if Jm S.frs g then (match i with
     |some i=>Ib n M Y Sg g (first++(c.args.toList.map (ev Z)++caps)) o.dst i Z K
     |none=>False) else aop P S (n+M) o Z (K i)
   |_=>aop P S (n+M) o Z (K i)
  |_=>aop P S (n+M) o Z (K i)
 |_=>aop P S (n+M) o Z (K i)
def Hg (dsts:List (Option Nat)) (o:Oper) (i:Option Nat) (Z:St) (K:Option Nat->St->Prop):Prop :=
 match o.guard with
 |none=>Y7 P S n M l Y Sg o i Z K
 |some (j,want) =>
  match dsts[j]? with
  |some (some d) =>
   match Z.sl.getD d .undef with
   |.tt=>if want then Y7 P S n M l Y Sg o i Z K else K i (Z.put o.dst (.tup []))
   |.ff=>if want then K i (Z.put o.dst (.tup [])) else Y7 P S n M l Y Sg o i Z K
   |.bool b =>
    if want then br b (Y7 P S n M l Y Sg o i (Z.put (some d) .tt) K) (K i ((Z.put (some d) .ff).put o.dst (.tup [])))
    else br b (K i ((Z.put (some d) .tt).put o.dst (.tup []))) (Y7 P S n M l Y Sg o i (Z.put (some d) .ff) K)
   |.tup []=>K i (Z.put o.dst (.tup []))
   |_=>False
  |_=>False
def N6 (dsts:List (Option Nat)):List Oper->Option Nat->St->(Option Nat->St->Prop)->Prop
 |[],i,Z,K=>K i Z
 |o::r,i,Z,K=>Hg P S n M l Y Sg dsts o i Z fun i Z=>N6 dsts r i Z K
def Ie (ops:Array Oper):List Nat->Option Nat->St->(Option Nat->St->Prop)->Prop
 |[],i,Z,K=>K i Z
 |q::r,i,Z,K=>match ops[q]? with
  |some o=>Hg P S n M l Y Sg (qf ops.toList) o i Z fun i Z=>Ie ops r i Z K
  |none=>False
def Gn (w:Ways) (o:Oper):Bool:=Qz w o || match o.op with
 |.call c=>(match c.callee with
  |.value (.func f)=>Jm w f
  |.value _=>true
  |_=>false)
 |_=>false
def Gv (w:Ways) (ops:Array Oper):Nat->List Nat->List Nat->List Nat
 |0,_,done=>done.reverse
 |k+1,rem,done=>match (rem.find? (fun i=>match ops[i]? with
   |some o=>!Gn w o && o.after.toList.all fun e=>!Region.binds .any e || done.contains e.on
   |none=>false)).or (rem.find? (fun i=>match ops[i]? with
   |some o=>o.after.toList.all fun e=>!Region.binds .any e || done.contains e.on
   |none=>false)) with
  |some i=>Gv w ops k (rem.filter fun j=>!(j == i)) (i::done)
  |none=>done.reverse
def YI (w:Ways) (ops:Array Oper):List Nat->List Nat × List Nat
 |[]=>([],[])
 |i::r=>if (match ops[i]? with
   |some o=>Gn w o
   |none=>false) then ([],i::r) else (i::(YI w ops r).1,(YI w ops r).2)
def KU (ops:Array Oper) (ord:List Nat) (i:Option Nat) (Z:St) (K:Option Nat->St->Prop):Prop :=
 kB (YI S.frs ops ord).1 fun pre=>kB (YI S.frs ops ord).2 fun fin =>
  if WS ops pre fin then Tt P S (n+M) ops pre [] Z fun Z=>Ie P S n M l Y Sg ops fin i Z K else False
def Gl (keep D:List Nat) (p:Pat) (f:Option Nat->St->(Ex->Option Nat->St->Prop)->Prop) (i:Option Nat) (Z:St) (K:Ex->Option Nat->St->Prop):Prop :=
 match i with
 |none=>False
 |some i0=>if xY D p then ∃I:Nat->Nat->List AV->Prop,qe P (n+M) keep D p true Z Z (fun vs=>∃m,I m i0 vs) /\
   ∀m i:Nat,jV P (n+M) keep D p Z fun vs τ=>I m i vs->f (some i) τ fun e j Z1=>match e with
    |.normal=>match j with
     |some j=>(Z1.sl.length=Z.sl.length/\Ia Z Z1 (keep.filter fun t=>!D.contains t))/\qe P (n+M) keep D p false Z Z1 fun vs=>∃k,k<m/\I k j vs
     |none=>False
    |e=>K e j Z1
  else False
def Ym (ctl:Ctl):Code->Option Nat->St->(Ex->Option Nat->St->Prop)->Prop
 |.skip,i,Z,K=>K .normal i Z
 |.region id ops true,i,Z,K=>qp (n+M) (ctl.zH id) Z fun Z=>kB (Gv S.frs ops ops.size (List.range ops.size) []) fun ord=>if P.follows .mixedOrders && ((uu S.frs ops).all (fun d=>vR (n+M) d Z) && SJ ops ord) then KU P S n M l Y Sg ops ord i Z fun i Z=>YG ctl.keep Z (K .normal i) else False
 |.region id ops false,i,Z,K=>qp (n+M) (ctl.zH id) Z fun Z=>N6 P S n M l Y Sg (qf ops.toList) ops.toList i Z fun i Z=>YG ctl.keep Z (K .normal i)
 |.seq a b,i,Z,K=>Ym ctl a i Z fun e i Z=>match e with
   |.normal=>Ym ctl b i Z K
   |e=>K e i Z
 |.cond c a b,i,Z,K=>match ev Z c with
  |.tt=>Ym ctl a i Z K
  |.ff=>Ym ctl b i Z K
  |.bool x=>br x (Ym ctl a i Z K) (Ym ctl b i Z K)
  |_=>False
 |.block id b,i,Z,K=>Ym ctl b i Z fun e i Z=>match e with
  |.exit j=>if j=id then K .normal i Z else K (.exit j) i Z
  |e=>K e i Z
 |.loop b,i,Z,K=>match MG ctl.loops (jT b) with
  |some p=>Gl P n M ctl.keep (ctl.dsts b) (p.res (n+M) Z) (Ym ctl b) i Z K
  |none=>False
 |.exit id,i,Z,K=>K (.exit id) i Z
 |.ret,i,Z,K=>K .ret i Z
 |_,_,_,_=>False
def vr (fn:Func) (args:List AV) (boxes:List Bx):St :=
 ⟨args++List.replicate (fn.ntmps-args.length) .undef,boxes.map some++List.replicate M none++List.replicate M none⟩
def KZ (len:Nat):Option Nat->Prop
 |some i=>i=len
 |none=>True
def QZ (ctl:Ctl) (fn:Func) (args:List AV) (boxes:List Bx) (len:Nat):Prop :=
 match fn.body with
 |some c=>if yE (vr M fn (.yld l::args) boxes) then Ym P S n M l Y Sg ctl c (some 0) (vr M fn (.yld l::args) boxes) (fun e i Z=>match e with
  |.exit _=>False
  |_=>if yE Z && uj n M Z then KZ len i else False) else False
 |none=>False
def Fk (fn:Func) (O:List (List AV)) (len:Nat) (i:Option Nat) (Z:St):Prop :=
 match fn.results.toList.mapM (WJ P Z),(List.range n).mapM Z.box with
 |some [v],some O'=>match v.zU with
  |some b=>if yE Z && uj n M Z && ((O'.all fun cs=>(AV.zd cs).all fun b=>decide (b<n)) && (List.range n).all (fun b=>match Z.bx.getD b none with | some x=>!x.arr | none=>true)) then O'=O/\KZ len i/\b=i.isSome else False
  |none=>False
 |_,_=>False
def Mb (ctl:Ctl) (fn:Func) (args:List AV) (boxes:List Bx) (len:Nat):Prop :=
 match fn.body with
 |some c=>if yE (vr M fn args boxes) then Ym P S n M l Y Sg ctl c (some 0) (vr M fn args boxes) (fun e i Z=>match e with
  |.exit _=>False
  |_=>Fk P n M fn (boxes.map (·.cs)) len i Z) else False
 |none=>False
end
def jK (n M:Nat) (Z:St) (E:Lay):Lay:=fun b=>if b<n then jy Z E b else if b<n+M then jy Z E (b+M) else jy Z E b
theorem jO {Z:St} {E:Lay} {b:Nat} (h:qq Z.bx b=true):jy Z E b=E b:=by unfold jy;rw[if_pos h]
theorem YW {Z:St} {E:Lay} {b:Nat} (h:(jy Z E b).2≠0):qq Z.bx b=true:=by
 unfold jy at h;split at h
 ·assumption
 ·exact absurd rfl h
theorem xJ {n M:Nat} {Z:St} (h:uj n M Z=true):(∀b,n<=b->b<n+M->qq Z.bx b=false)/\(∀b,b<n->qq Z.bx b=true)/\Z.bx.length=n+M+M:=by
 simp only[uj,Bool.and_eq_true,List.all_eq_true,List.mem_range,Bool.not_eq_true',decide_eq_true_eq] at h;refine⟨fun b h1 h2=>?_,h.2.1,h.2.2⟩;have:=h.1 (b-n) (by omega);rwa[show n+(b-n)=b by omega] at this
theorem qM {n M:Nat} {Z:St} {E:Lay} (hr:uj n M Z=true) {b:Nat} (h:qq Z.bx b=true):jK n M Z E b=E b:=by
 obtain ⟨r1,_,_⟩:=xJ hr;unfold jK;split
 ·exact jO h
 ·split
  ·rename_i h1 h2;rw[r1 b (by omega) h2] at h;cases h
  ·exact jO h
theorem qJ {n M:Nat} {Z:St} {E:Lay} (hr:uj n M Z=true) {k:Nat}:jL (jK n M Z E) (n+M) k↔∃b x,Z.bx.getD b none=some x/\(E b).2≠0/\k=(E b).1:=by
 obtain ⟨r1,_,r3⟩:=xJ hr;constructor
 ·rintro ⟨b,hb,hk,rfl⟩;unfold jK at hk ⊢;split at hk
  ·rename_i h1;have hl:=YW hk;rw[jO hl] at hk;rw[if_pos h1,jO hl];obtain ⟨x,hx⟩:=qU hl;exact⟨b,x,hx,hk,rfl⟩
  ·rename_i h1;have hl:=YW hk;rw[jO hl] at hk;rw[if_neg h1,if_pos hb,jO hl];obtain ⟨x,hx⟩:=qU hl;exact⟨b+M,x,hx,hk,rfl⟩
 ·rintro ⟨b,x,hx,hk,rfl⟩;have hl:=wu hx;have hlt:=XA hl;by_cases h1:b<n
  ·refine⟨b,by omega,?_,?_⟩<;>rw[qM hr hl];exact hk
  ·by_cases h2:b<n+M
   ·rw[r1 b (by omega) h2] at hl;cases hl
   ·have e:jK n M Z E (b-M)=E b:=by
     unfold jK;rw[if_neg (by omega),if_pos (by omega),show b-M+M=b by omega,jO hl]
    refine⟨b-M,by omega,?_,?_⟩<;>rw[e];exact hk
section
variable {n M:Nat} {E0:Lay} {ρ0:RO} {W:World} {ρ:RO} {E:Lay} {Z:St} {a:Act} {w:World}
theorem Sat.blkLt (hs:Sat [] (n+M) E0 ρ0 W ρ E Z a w) {b:Nat} {x:Bx} (hx:Z.bx.getD b none=some x) (hk:(E b).2≠0):(E b).1<w.heap.size:=by
 rcases (hs.box b x hx).blk with h0 | ⟨o,h,_⟩
 ·exact absurd h0 hk
 ·exact(Array.getElem?_eq_some_iff.1 h).1
theorem Sat.held (hs:Sat [] (n+M) E0 ρ0 W ρ E Z a w) (hl:yE Z=true) (hr:uj n M Z=true) {ρ':RO} {W':World} (hle:ρ.le ρ') (hro:∀k o,ρ' k=some o->W'.heap[k]? = some o)
  (hsep:∀b x,Z.bx.getD b none=some x->(E b).2≠0->ρ' (E b).1=none) (hbox:∀b x,Z.bx.getD b none=some x->kR ρ' (lev (jK n M Z E) x) (jK n M Z E) W' b x.cs) :
  Sat [] (n+M) (jK n M Z E) ρ' W' ρ' (jK n M Z E) Z a W':=by
 simp only[yE,Bool.and_eq_true,List.all_eq_true] at hl;obtain ⟨r1,r2,r3⟩:=xJ hr;refine { gl:=(hs.gl.mono hs.le).mono hle,dfe:=hs.dfe,defs:=.nil _ _ _,sz:=hs.sz,sl:=fun t=>((hs.sl t).lay fun b hb=>qM hr (hl.1 b (yY hb))).mono hle,box:=hbox,inj:=fun b b' cs cs' h h' hne hk hk'=>?_,sep:=fun b cs h hk=>?_,own:=fun b cs h hk hn=>?_,inc:=fun _ _=>rfl,ro:=hro,le:=RO.le_refl _,new:=fun k o h h0=>(by rw[h0] at h;cases h),frame:=fun _ _ _=>rfl,size:=Nat.le_refl _,os:=rfl,tape:=rfl,output:=rfl }
 ·rw[qM hr (jx h)] at hk ⊢;rw[qM hr (jx h')] at hk' ⊢;exact hs.inj b b' cs cs' h h' hne hk hk'
 ·rw[qM hr (jx h)] at hk ⊢;obtain ⟨x,hx,-⟩:=yT h;exact hsep b x hx hk
 ·rw[qM hr (jx h)] at hk ⊢;obtain ⟨x,hx,-⟩:=yT h;exact .inr ((qJ hr).2 ⟨b,x,hx,hk,rfl⟩)
theorem Sat.zM (hs:Sat [] (n+M) E0 ρ0 W ρ E Z a w) (hl:yE Z=true) (hr:uj n M Z=true) {ρ':RO} {W':World} (hle:ρ.le ρ') {b:Nat} {x:Bx} (hx:Z.bx.getD b none=some x)
  (hsame:(E b).2≠0->W'.heap[(E b).1]? = w.heap[(E b).1]?):kR ρ' (lev (jK n M Z E) x) (jK n M Z E) W' b x.cs:=by
 simp only[yE,Bool.and_eq_true,List.all_eq_true] at hl;have hb:=qM (E:=E) hr (wu hx);obtain ⟨h1,h2⟩:=hs.box b x hx;refine⟨by rw[hb];exact h1,?_⟩;rw[hb];by_cases h0:(E b).2=0
 ·exact .inl h0
 ·rcases h2 with h2 | ⟨o,h3,h5⟩
  ·exact absurd h2 h0
  ·refine .inr ⟨o,by rw[hsame h0];exact h3,h5.imp rfl (fun j cv h6=>?_) (hl:=by rw[q9,q9])⟩;unfold lev at h6 ⊢;split
   ·rename_i ha;rw[if_pos ha] at h6;exact h6.mono hle
   ·rename_i ha;rw[if_neg ha] at h6;refine(h6.lay fun b' hb'=>qM hr ?_).mono hle;have hm:some x∈Z.bx:=by
     simp only[List.getD] at hx;cases hg:Z.bx[b]? with
     |none=>rw[hg] at hx;cases hx
     |some y=>rw[hg] at hx;simp only[Option.getD_some] at hx;subst hx;exact List.mem_of_getElem? hg
    have:=hl.2 _ hm;simp only[List.all_eq_true] at this;exact this b' (by unfold Bx.refs;rw[if_neg ha];exact yY hb')
end
def TB (N:Nat) (E0:Lay) (Tf:Nat->Prop) (k:Nat):Prop:=jL E0 N k\/Tf k
structure YD (n M:Nat) (ES:Lay) (ρS:RO) (wS:World) (Tf:Nat->Prop) (E0:Lay) (ρ0:RO) (W:World):Prop where
 lay:∀c,c<n->E0 c=ES c
 res:∀c,n<=c->c<n+M->(E0 c).2≠0->wS.heap.size<=(E0 c).1
 le:ρS.le ρ0
 new:∀k o,ρ0 k=some o->ρS k=none->wS.heap.size<=k
 frn:∀k,Tf k->k<wS.heap.size/\ρ0 k=none/\¬ jL E0 (n+M) k/\W.heap[k]? = wS.heap[k]?
 size:wS.heap.size<=W.heap.size
 os:W.os=wS.os
 tape:W.tape=wS.tape
 output:W.output=wS.output
section
variable {n M:Nat} {ES:Lay} {ρS:RO} {wS:World} {Tf:Nat->Prop} {E0:Lay} {ρ0:RO} {W:World} {ρ:RO} {E:Lay} {Z:St} {a:Act} {w:World}
theorem YD.next (hb:YD n M ES ρS wS Tf E0 ρ0 W) (hs:Sat [] (n+M) E0 ρ0 W ρ E Z a w) (hr:uj n M Z=true) :
  YD n M ES ρS wS Tf (jK n M Z E) ρ w/\XL ρ0 (TB (n+M) E0 Tf) W ρ (TB (n+M) (jK n M Z E) Tf) w:=by
 obtain ⟨r1,r2,r3⟩:=xJ hr;have hcame:∀c,c<n->E c=ES c:=fun c hc=>(hs.inc c (by omega)).trans (hb.lay c hc)
 have hown:∀b x,Z.bx.getD b none=some x->(E b).2≠0->n<=b->wS.heap.size<=(E b).1:=by
  intro b x hx hk hn;have hlt:¬ b<n+M:=fun h=>by have:=wu hx;rw[r1 b hn h] at this;cases this
  rcases hs.own b _ (yu hx) hk (by omega) with h | ⟨c,hc,h0,he⟩
  ·have:=hb.size;omega
  ·by_cases hcn:c<n
   ·exfalso;obtain ⟨y,hy⟩:=qU (r2 c hcn);have hi:=hs.inc c (by omega);exact hs.inj b c _ _ (yu hx) (yu hy) (by omega) hk (by rw[hi];exact h0) (by rw[hi];exact he)
   ·rw[he];exact hb.res c (by omega) hc h0
 have hnew:∀k o,ρ k=some o->ρ0 k=none->wS.heap.size<=k:=by
  intro k o h h0;rcases hs.new k o h h0 with h1 | ⟨c,hc,h1,he⟩
  ·have:=hb.size;omega
  ·by_cases hcn:c<n
   ·exfalso;obtain ⟨y,hy⟩:=qU (r2 c hcn);have hi:=hs.inc c (by omega);have:=hs.sep c _ (yu hy) (by rw[hi];exact h1);rw[hi,<- he,h] at this;cases this
   ·rw[he];exact hb.res c (by omega) hc h1
 have hfrn:∀k,Tf k->k<wS.heap.size/\ρ k=none/\¬ jL (jK n M Z E) (n+M) k/\w.heap[k]? = wS.heap[k]?:=by
  intro k hk;obtain ⟨f1,f2,f3,f4⟩:=hb.frn k hk;refine⟨f1,?_,?_,?_⟩
  ·cases h:ρ k with
   |none=>rfl
   |some o=>have:=hnew k o h f2;omega
  ·intro hbk;obtain ⟨b,x,hx,h0,rfl⟩:=(qJ hr).1 hbk;by_cases hn:n<=b
   ·have:=hown b x hx h0 hn;omega
   ·have hi:=hs.inc b (by omega);exact f3 ⟨b,by omega,by rw[<- hi];exact h0,by rw[hi]⟩
  ·rw[hs.frame k (by have:=hb.size;omega) fun b hb' h0 he=>f3 ⟨b,hb',h0,he⟩];exact f4
 refine⟨⟨fun c hc=>?_,fun c h1 h2 h3=>?_,hb.le.trans hs.le,fun k o h h0=>?_,hfrn,Nat.le_trans hb.size hs.size,hs.os.trans hb.os,hs.tape.trans hb.tape,hs.output.trans hb.output⟩,
  ⟨hs.size,fun k hk hT=>?_,hs.le,hs.ro,fun k o h h0=>?_,fun k hk=>?_,fun k hk=>?_,fun k hk=>?_,hs.os,hs.tape,hs.output⟩⟩
 ·rw[qM hr (r2 c hc)];exact hcame c hc
 ·unfold jK at h3 ⊢;rw[if_neg (by omega),if_pos h2] at h3 ⊢;have hlv:=YW h3;rw[jO hlv] at h3 ⊢;obtain ⟨x,hx⟩:=qU hlv;exact hown _ x hx h3 (by omega)
 ·cases h1:ρ0 k with
  |none=>exact hnew k o h h1
  |some o'=>exact hb.new k o' h1 h0
 ·exact hs.frame k hk fun b hb' h0 he=>hT (.inl ⟨b,hb',h0,he⟩)
 ·rcases hs.new k o h h0 with h1 | h1
  ·exact .inr h1
  ·exact .inl (.inl h1)
 ·rcases hk with hk | hk
  ·obtain ⟨b,x,hx,h0,rfl⟩:=(qJ hr).1 hk;by_cases hn:n+M<=b
   ·rcases hs.own b _ (yu hx) h0 hn with h | h
    ·exact .inr h
    ·exact .inl (.inl h)
   ·have hi:=hs.inc b (by omega);exact .inl (.inl ⟨b,by omega,by rw[<- hi];exact h0,by rw[hi]⟩)
  ·exact .inl (.inr hk)
 ·rcases hk with hk | hk
  ·obtain ⟨b,x,hx,h0,rfl⟩:=(qJ hr).1 hk;exact hs.blkLt hx h0
  ·have:=(hfrn k hk).1;have:=hb.size;have:=hs.size;omega
 ·rcases hk with hk | hk
  ·obtain ⟨b,x,hx,h0,rfl⟩:=(qJ hr).1 hk;exact hs.sep b _ (yu hx) h0
  ·exact(hfrn k hk).2.1
end
end Go.Proofs.YtdeeekgohhkdbaaGreatDoor

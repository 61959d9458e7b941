/- Functions that loops go over, and functions that are handed a yield: their own text followed; they may hold memory of their own from one yield to the next. Functions that yield: what is held between two yields. -/
import Derived.Test.YtkojpnkknehhmaaGreatDoorG1
namespace Go.Proofs.YtkojpnkknehhmaaGreatDoor
open Go.RowKit
def Jq (σ0 σ1:St):List Nat->Prop
 |[]=>True
 |t::r=>σ1.sl.getD t .undef=σ0.sl.getD t .undef/\Jq σ0 σ1 r
def vW (n M:Nat) (σ:St):Bool:=(List.range M).all (fun j=>!qh σ.bx (n+j)) && ((List.range n).all (qh σ.bx) && decide (σ.bx.length=n+M+M))
def KO (w:Ways) (g:FuncId):Bool:=w.ro.contains (g+998000000)
section
variable (P:Program) (S:Specs) (n M l:Nat) (Y:Nat->List AV->Prop) (Sg:FuncId->List AV->List (List AV)->List (List AV)->Prop)
def Jt (g:FuncId) (args:List AV) (d:Option Nat) (i:Nat) (σ:St) (K:Option Nat->St->Prop):Prop :=
 match (yv σ args).mapM (fun b=>σ.bx.getD b none) with
 |some bs=>if yp σ && (vW n M σ && X6 σ args (yv σ args)) then
   ∃xs:List (List AV),Sg g (AV.zb (AV.zh (idx · (yv σ args)) args)) (bs.map fun x=>AV.zb (AV.zh (idx · (yv σ args)) x.cs)) xs/\(∀(j:Nat) (x:List AV),xs[j]? = some x->Y (i+j) x) /\
    K (some (i+xs.length)) (σ.put d .tt)/\K none (σ.put d .ff)
  else False
 |none=>False
def YR (o:Oper) (i:Option Nat) (σ:St) (K:Option Nat->St->Prop):Prop :=
 match o.op with
 |.call c =>
  match c.callee with
  |.value (.func f)=>if KO S.frs f then (match i with
    |some i=>Jt n M Y Sg f (c.args.toList.map (ev σ)) o.dst i σ K
    |none=>False) else aop P S (n+M) o σ (K i)
  |.value f=>match ev σ f with
   |.yld l'=>(match i with
    |some i=>if AV.zi (c.args.toList.map (ev σ)) && (yp σ && vW n M σ) then
      l'=l/\Y i (AV.zb (c.args.toList.map (ev σ)))/\K (some (i+1)) (σ.put o.dst .tt)/\K none (σ.put o.dst .ff) else False
    |none=>False)
   |.fn g first caps=>if KO S.frs g then (match i with
     |some i=>Jt n M Y Sg g (first++(c.args.toList.map (ev σ)++caps)) o.dst i σ K
     |none=>False) else aop P S (n+M) o σ (K i)
   |_=>aop P S (n+M) o σ (K i)
  |_=>aop P S (n+M) o σ (K i)
 |_=>aop P S (n+M) o σ (K i)
def IC (dsts:List (Option Nat)) (o:Oper) (i:Option Nat) (σ:St) (K:Option Nat->St->Prop):Prop :=
 match o.guard with
 |none=>YR P S n M l Y Sg o i σ K
 |some (j,want) =>
  match dsts[j]? with
  |some (some d) =>
   match σ.sl.getD d .undef with
   |.tt=>if want then YR P S n M l Y Sg o i σ K else K i (σ.put o.dst (.tup []))
   |.ff=>if want then K i (σ.put o.dst (.tup [])) else YR P S n M l Y Sg o i σ K
   |.bool b =>
    if want then br b (YR P S n M l Y Sg o i (σ.put (some d) .tt) K) (K i ((σ.put (some d) .ff).put o.dst (.tup [])))
    else br b (K i ((σ.put (some d) .tt).put o.dst (.tup []))) (YR P S n M l Y Sg o i (σ.put (some d) .ff) K)
   |.tup []=>K i (σ.put o.dst (.tup []))
   |_=>False
  |_=>False
def Nn (dsts:List (Option Nat)):List Oper->Option Nat->St->(Option Nat->St->Prop)->Prop
 |[],i,σ,K=>K i σ
 |o::r,i,σ,K=>IC P S n M l Y Sg dsts o i σ fun i σ=>Nn dsts r i σ K
def Jv (ops:Array Oper):List Nat->Option Nat->St->(Option Nat->St->Prop)->Prop
 |[],i,σ,K=>K i σ
 |q::r,i,σ,K=>match ops[q]? with
  |some o=>IC P S n M l Y Sg (qi ops.toList) o i σ fun i σ=>Jv ops r i σ K
  |none=>False
def HK (w:Ways) (o:Oper):Bool:=S4 w o || match o.op with
 |.call c=>(match c.callee with
  |.value (.func f)=>KO w f
  |.value _=>true
  |_=>false)
 |_=>false
def HT (w:Ways) (ops:Array Oper):Nat->List Nat->List Nat->List Nat
 |0,_,done=>done.reverse
 |k+1,rem,done=>match (rem.find? (fun i=>match ops[i]? with
   |some o=>!HK w o && o.after.toList.all fun e=>!Region.binds .any e || done.contains e.on
   |none=>false)).or (rem.find? (fun i=>match ops[i]? with
   |some o=>o.after.toList.all fun e=>!Region.binds .any e || done.contains e.on
   |none=>false)) with
  |some i=>HT w ops k (rem.filter fun j=>!(j == i)) (i::done)
  |none=>done.reverse
def Yw (w:Ways) (ops:Array Oper):List Nat->List Nat × List Nat
 |[]=>([],[])
 |i::r=>if (match ops[i]? with
   |some o=>HK w o
   |none=>false) then ([],i::r) else (i::(Yw w ops r).1,(Yw w ops r).2)
def Km (ops:Array Oper) (ord:List Nat) (i:Option Nat) (σ:St) (K:Option Nat->St->Prop):Prop :=
 kh (Yw S.frs ops ord).1 fun pre=>kh (Yw S.frs ops ord).2 fun fin =>
  if WC ops pre fin then Td P S (n+M) ops pre [] σ fun σ=>Jv P S n M l Y Sg ops fin i σ K else False
def HI (keep D:List Nat) (p:Pat) (f:Option Nat->St->(Ex->Option Nat->St->Prop)->Prop) (i:Option Nat) (σ:St) (K:Ex->Option Nat->St->Prop):Prop :=
 match i with
 |none=>False
 |some i0=>if xH D p then ∃I:Nat->Nat->List AV->Prop,qb P (n+M) keep D p true σ σ (fun vs=>∃m,I m i0 vs) /\
   ∀m i:Nat,jI P (n+M) keep D p σ fun vs τ=>I m i vs->f (some i) τ fun e j σ1=>match e with
    |.normal=>match j with
     |some j=>(σ1.sl.length=σ.sl.length/\Jq σ σ1 (keep.filter fun t=>!D.contains t))/\qb P (n+M) keep D p false σ σ1 fun vs=>∃k,k<m/\I k j vs
     |none=>False
    |e=>K e j σ1
  else False
def Ye (ctl:Ctl):Code->Option Nat->St->(Ex->Option Nat->St->Prop)->Prop
 |.skip,i,σ,K=>K .normal i σ
 |.region id ops true,i,σ,K=>qp (n+M) (ctl.zC id) σ fun σ=>kh (HT S.frs ops ops.size (List.range ops.size) []) fun ord=>if P.follows .mixedOrders && ((ud S.frs ops).all (fun d=>vG (n+M) d σ) && T9 ops ord) then Km P S n M l Y Sg ops ord i σ fun i σ=>Yv ctl.keep σ (K .normal i) else False
 |.region id ops false,i,σ,K=>qp (n+M) (ctl.zC id) σ fun σ=>Nn P S n M l Y Sg (qi ops.toList) ops.toList i σ fun i σ=>Yv ctl.keep σ (K .normal i)
 |.seq a b,i,σ,K=>Ye ctl a i σ fun e i σ=>match e with
   |.normal=>Ye ctl b i σ K
   |e=>K e i σ
 |.cond c a b,i,σ,K=>match ev σ c with
  |.tt=>Ye ctl a i σ K
  |.ff=>Ye ctl b i σ K
  |.bool x=>br x (Ye ctl a i σ K) (Ye ctl b i σ K)
  |_=>False
 |.block id b,i,σ,K=>Ye ctl b i σ fun e i σ=>match e with
  |.exit j=>if j=id then K .normal i σ else K (.exit j) i σ
  |e=>K e i σ
 |.loop b,i,σ,K=>match N2 ctl.loops (wP b) with
  |some p=>HI P n M ctl.keep (ctl.dsts b) (p.res (n+M) σ) (Ye ctl b) i σ K
  |none=>False
 |.exit id,i,σ,K=>K (.exit id) i σ
 |.ret,i,σ,K=>K .ret i σ
 |_,_,_,_=>False
def vg (fn:Func) (args:List AV) (boxes:List Bx):St :=
 ⟨args++List.replicate (fn.ntmps-args.length) .undef,boxes.map some++List.replicate M none++List.replicate M none⟩
def Kr (len:Nat):Option Nat->Prop
 |some i=>i=len
 |none=>True
def Qs (ctl:Ctl) (fn:Func) (args:List AV) (boxes:List Bx) (len:Nat):Prop :=
 match fn.body with
 |some c=>if yp (vg M fn (.yld l::args) boxes) then Ye P S n M l Y Sg ctl c (some 0) (vg M fn (.yld l::args) boxes) (fun e i σ=>match e with
  |.exit _=>False
  |_=>if yp σ && vW n M σ then Kr len i else False) else False
 |none=>False
def GW (fn:Func) (O:List (List AV)) (len:Nat) (i:Option Nat) (σ:St):Prop :=
 match fn.results.toList.mapM (Tp P σ),(List.range n).mapM σ.box with
 |some [v],some O'=>match v.zN with
  |some b=>if yp σ && vW n M σ && ((O'.all fun cs=>(AV.zd cs).all fun b=>decide (b<n)) && (List.range n).all (fun b=>match σ.bx.getD b none with | some x=>!x.arr | none=>true)) then O'=O/\Kr len i/\b=i.isSome else False
  |none=>False
 |_,_=>False
def Ns (ctl:Ctl) (fn:Func) (args:List AV) (boxes:List Bx) (len:Nat):Prop :=
 match fn.body with
 |some c=>if yp (vg M fn args boxes) then Ye P S n M l Y Sg ctl c (some 0) (vg M fn args boxes) (fun e i σ=>match e with
  |.exit _=>False
  |_=>GW P n M fn (boxes.map (·.cs)) len i σ) else False
 |none=>False
end
def jy (n M:Nat) (σ:St) (μ:Lay):Lay:=fun b=>if b<n then jj σ μ b else if b<n+M then jj σ μ (b+M) else jj σ μ b
theorem jB {σ:St} {μ:Lay} {b:Nat} (h:qh σ.bx b=true):jj σ μ b=μ b:=by unfold jj;rw[if_pos h]
theorem YD {σ:St} {μ:Lay} {b:Nat} (h:(jj σ μ b).2≠0):qh σ.bx b=true:=by
 unfold jj at h;split at h
 ·assumption
 ·exact absurd rfl h
theorem xj {n M:Nat} {σ:St} (h:vW n M σ=true):(∀b,n<=b->b<n+M->qh σ.bx b=false)/\(∀b,b<n->qh σ.bx b=true)/\σ.bx.length=n+M+M:=by
 simp only[vW,Bool.and_eq_true,List.all_eq_true,List.mem_range,Bool.not_eq_true',decide_eq_true_eq] at h;refine⟨fun b h1 h2=>?_,h.2.1,h.2.2⟩;have:=h.1 (b-n) (by omega);rwa[show n+(b-n)=b by omega] at this
theorem qB {n M:Nat} {σ:St} {μ:Lay} (hr:vW n M σ=true) {b:Nat} (h:qh σ.bx b=true):jy n M σ μ b=μ b:=by
 obtain ⟨r1,_,_⟩:=xj hr;unfold jy;split
 ·exact jB h
 ·split
  ·rename_i h1 h2;rw[r1 b (by omega) h2] at h;cases h
  ·exact jB h
theorem qw {n M:Nat} {σ:St} {μ:Lay} (hr:vW n M σ=true) {k:Nat}:jz (jy n M σ μ) (n+M) k↔∃b x,σ.bx.getD b none=some x/\(μ b).2≠0/\k=(μ b).1:=by
 obtain ⟨r1,_,r3⟩:=xj hr;constructor
 ·rintro ⟨b,hb,hk,rfl⟩;unfold jy at hk ⊢;split at hk
  ·rename_i h1;have hl:=YD hk;rw[jB hl] at hk;rw[if_pos h1,jB hl];obtain ⟨x,hx⟩:=qL hl;exact⟨b,x,hx,hk,rfl⟩
  ·rename_i h1;have hl:=YD hk;rw[jB hl] at hk;rw[if_neg h1,if_pos hb,jB hl];obtain ⟨x,hx⟩:=qL hl;exact⟨b+M,x,hx,hk,rfl⟩
 ·rintro ⟨b,x,hx,hk,rfl⟩;have hl:=kW hx;have hlt:=Xe hl;by_cases h1:b<n
  ·refine⟨b,by omega,?_,?_⟩<;>rw[qB hr hl];exact hk
  ·by_cases h2:b<n+M
   ·rw[r1 b (by omega) h2] at hl;cases hl
   ·have e:jy n M σ μ (b-M)=μ b:=by
     unfold jy;rw[if_neg (by omega),if_pos (by omega),show b-M+M=b by omega,jB hl]
    refine⟨b-M,by omega,?_,?_⟩<;>rw[e];exact hk
section
variable {n M:Nat} {μ0:Lay} {ρ0:RO} {W:World} {ρ:RO} {μ:Lay} {σ:St} {a:Act} {w:World}
theorem Sat.blkLt (hs:Sat [] (n+M) μ0 ρ0 W ρ μ σ a w) {b:Nat} {x:Bx} (hx:σ.bx.getD b none=some x) (hk:(μ b).2≠0):(μ b).1<w.heap.size:=by
 rcases (hs.box b x hx).blk with h0 | ⟨o,h,_⟩
 ·exact absurd h0 hk
 ·exact(Array.getElem?_eq_some_iff.1 h).1
theorem Sat.held (hs:Sat [] (n+M) μ0 ρ0 W ρ μ σ a w) (hl:yp σ=true) (hr:vW n M σ=true) {ρ':RO} {W':World} (hle:ρ.le ρ') (hro:∀k o,ρ' k=some o->W'.heap[k]? = some o)
  (hsep:∀b x,σ.bx.getD b none=some x->(μ b).2≠0->ρ' (μ b).1=none) (hbox:∀b x,σ.bx.getD b none=some x->vQ ρ' (lev (jy n M σ μ) x) (jy n M σ μ) W' b x.cs) :
  Sat [] (n+M) (jy n M σ μ) ρ' W' ρ' (jy n M σ μ) σ a W':=by
 simp only[yp,Bool.and_eq_true,List.all_eq_true] at hl;obtain ⟨r1,r2,r3⟩:=xj hr;refine { gl:=(hs.gl.mono hs.le).mono hle,dfe:=hs.dfe,defs:=.nil _ _ _,sz:=hs.sz,sl:=fun t=>((hs.sl t).lay fun b hb=>qB hr (hl.1 b (yT hb))).mono hle,box:=hbox,inj:=fun b b' cs cs' h h' hne hk hk'=>?_,sep:=fun b cs h hk=>?_,own:=fun b cs h hk hn=>?_,inc:=fun _ _=>rfl,ro:=hro,le:=RO.le_refl _,new:=fun k o h h0=>(by rw[h0] at h;cases h),frame:=fun _ _ _=>rfl,size:=Nat.le_refl _,os:=rfl,tape:=rfl,output:=rfl }
 ·rw[qB hr (ji h)] at hk ⊢;rw[qB hr (ji h')] at hk' ⊢;exact hs.inj b b' cs cs' h h' hne hk hk'
 ·rw[qB hr (ji h)] at hk ⊢;obtain ⟨x,hx,-⟩:=yK h;exact hsep b x hx hk
 ·rw[qB hr (ji h)] at hk ⊢;obtain ⟨x,hx,-⟩:=yK h;exact .inr ((qw hr).2 ⟨b,x,hx,hk,rfl⟩)
theorem Sat.zI (hs:Sat [] (n+M) μ0 ρ0 W ρ μ σ a w) (hl:yp σ=true) (hr:vW n M σ=true) {ρ':RO} {W':World} (hle:ρ.le ρ') {b:Nat} {x:Bx} (hx:σ.bx.getD b none=some x)
  (hsame:(μ b).2≠0->W'.heap[(μ b).1]? = w.heap[(μ b).1]?):vQ ρ' (lev (jy n M σ μ) x) (jy n M σ μ) W' b x.cs:=by
 simp only[yp,Bool.and_eq_true,List.all_eq_true] at hl;have hb:=qB (μ:=μ) hr (kW hx);obtain ⟨h1,h2⟩:=hs.box b x hx;refine⟨by rw[hb];exact h1,?_⟩;rw[hb];by_cases h0:(μ b).2=0
 ·exact .inl h0
 ·rcases h2 with h2 | ⟨o,h3,h5⟩
  ·exact absurd h2 h0
  ·refine .inr ⟨o,by rw[hsame h0];exact h3,h5.imp rfl (fun j cv h6=>?_) (hl:=by rw[qD,qD])⟩;unfold lev at h6 ⊢;split
   ·rename_i ha;rw[if_pos ha] at h6;exact h6.mono hle
   ·rename_i ha;rw[if_neg ha] at h6;refine(h6.lay fun b' hb'=>qB hr ?_).mono hle;have hm:some x∈σ.bx:=by
     simp only[List.getD] at hx;cases hg:σ.bx[b]? with
     |none=>rw[hg] at hx;cases hx
     |some y=>rw[hg] at hx;simp only[Option.getD_some] at hx;subst hx;exact List.mem_of_getElem? hg
    have:=hl.2 _ hm;simp only[List.all_eq_true] at this;exact this b' (by unfold Bx.refs;rw[if_neg ha];exact yT hb')
end
def TB (N:Nat) (μ0:Lay) (Tf:Nat->Prop) (k:Nat):Prop:=jz μ0 N k\/Tf k
structure Yr (n M:Nat) (μS:Lay) (ρS:RO) (wS:World) (Tf:Nat->Prop) (μ0:Lay) (ρ0:RO) (W:World):Prop where
 lay:∀c,c<n->μ0 c=μS c
 res:∀c,n<=c->c<n+M->(μ0 c).2≠0->wS.heap.size<=(μ0 c).1
 le:ρS.le ρ0
 new:∀k o,ρ0 k=some o->ρS k=none->wS.heap.size<=k
 frn:∀k,Tf k->k<wS.heap.size/\ρ0 k=none/\¬ jz μ0 (n+M) k/\W.heap[k]? = wS.heap[k]?
 size:wS.heap.size<=W.heap.size
 os:W.os=wS.os
 tape:W.tape=wS.tape
 output:W.output=wS.output
section
variable {n M:Nat} {μS:Lay} {ρS:RO} {wS:World} {Tf:Nat->Prop} {μ0:Lay} {ρ0:RO} {W:World} {ρ:RO} {μ:Lay} {σ:St} {a:Act} {w:World}
theorem Yr.next (hb:Yr n M μS ρS wS Tf μ0 ρ0 W) (hs:Sat [] (n+M) μ0 ρ0 W ρ μ σ a w) (hr:vW n M σ=true) :
  Yr n M μS ρS wS Tf (jy n M σ μ) ρ w/\Xy ρ0 (TB (n+M) μ0 Tf) W ρ (TB (n+M) (jy n M σ μ) Tf) w:=by
 obtain ⟨r1,r2,r3⟩:=xj hr;have hcame:∀c,c<n->μ c=μS c:=fun c hc=>(hs.inc c (by omega)).trans (hb.lay c hc)
 have hown:∀b x,σ.bx.getD b none=some x->(μ b).2≠0->n<=b->wS.heap.size<=(μ b).1:=by
  intro b x hx hk hn;have hlt:¬ b<n+M:=fun h=>by have:=kW hx;rw[r1 b hn h] at this;cases this
  rcases hs.own b _ (yi hx) hk (by omega) with h | ⟨c,hc,h0,he⟩
  ·have:=hb.size;omega
  ·by_cases hcn:c<n
   ·exfalso;obtain ⟨y,hy⟩:=qL (r2 c hcn);have hi:=hs.inc c (by omega);exact hs.inj b c _ _ (yi hx) (yi hy) (by omega) hk (by rw[hi];exact h0) (by rw[hi];exact he)
   ·rw[he];exact hb.res c (by omega) hc h0
 have hnew:∀k o,ρ k=some o->ρ0 k=none->wS.heap.size<=k:=by
  intro k o h h0;rcases hs.new k o h h0 with h1 | ⟨c,hc,h1,he⟩
  ·have:=hb.size;omega
  ·by_cases hcn:c<n
   ·exfalso;obtain ⟨y,hy⟩:=qL (r2 c hcn);have hi:=hs.inc c (by omega);have:=hs.sep c _ (yi hy) (by rw[hi];exact h1);rw[hi,<- he,h] at this;cases this
   ·rw[he];exact hb.res c (by omega) hc h1
 have hfrn:∀k,Tf k->k<wS.heap.size/\ρ k=none/\¬ jz (jy n M σ μ) (n+M) k/\w.heap[k]? = wS.heap[k]?:=by
  intro k hk;obtain ⟨f1,f2,f3,f4⟩:=hb.frn k hk;refine⟨f1,?_,?_,?_⟩
  ·cases h:ρ k with
   |none=>rfl
   |some o=>have:=hnew k o h f2;omega
  ·intro hbk;obtain ⟨b,x,hx,h0,rfl⟩:=(qw hr).1 hbk;by_cases hn:n<=b
   ·have:=hown b x hx h0 hn;omega
   ·have hi:=hs.inc b (by omega);exact f3 ⟨b,by omega,by rw[<- hi];exact h0,by rw[hi]⟩
  ·rw[hs.frame k (by have:=hb.size;omega) fun b hb' h0 he=>f3 ⟨b,hb',h0,he⟩];exact f4
 refine⟨⟨fun c hc=>?_,fun c h1 h2 h3=>?_,hb.le.trans hs.le,fun k o h h0=>?_,hfrn,Nat.le_trans hb.size hs.size,hs.os.trans hb.os,hs.tape.trans hb.tape,hs.output.trans hb.output⟩,
  ⟨hs.size,fun k hk hT=>?_,hs.le,hs.ro,fun k o h h0=>?_,fun k hk=>?_,fun k hk=>?_,fun k hk=>?_,hs.os,hs.tape,hs.output⟩⟩
 ·rw[qB hr (r2 c hc)];exact hcame c hc
 ·unfold jy at h3 ⊢;rw[if_neg (by omega),if_pos h2] at h3 ⊢;have hlv:=YD h3;rw[jB hlv] at h3 ⊢;obtain ⟨x,hx⟩:=qL hlv;exact hown _ x hx h3 (by omega)
 ·cases h1:ρ0 k with
  |none=>exact hnew k o h h1
  |some o'=>exact hb.new k o' h1 h0
 ·exact hs.frame k hk fun b hb' h0 he=>hT (.inl ⟨b,hb',h0,he⟩)
 ·rcases hs.new k o h h0 with h1 | h1
  ·exact .inr h1
  ·exact .inl (.inl h1)
 ·rcases hk with hk | hk
  ·obtain ⟨b,x,hx,h0,rfl⟩:=(qw hr).1 hk;by_cases hn:n+M<=b
   ·rcases hs.own b _ (yi hx) h0 hn with h | h
    ·exact .inr h
    ·exact .inl (.inl h)
   ·have hi:=hs.inc b (by omega);exact .inl (.inl ⟨b,by omega,by rw[<- hi];exact h0,by rw[hi]⟩)
  ·exact .inl (.inr hk)
 ·rcases hk with hk | hk
  ·obtain ⟨b,x,hx,h0,rfl⟩:=(qw hr).1 hk;exact hs.blkLt hx h0
  ·have:=(hfrn k hk).1;have:=hb.size;have:=hs.size;omega
 ·rcases hk with hk | hk
  ·obtain ⟨b,x,hx,h0,rfl⟩:=(qw hr).1 hk;exact hs.sep b _ (yi hx) h0
  ·exact(hfrn k hk).2.1
end
end Go.Proofs.YtkojpnkknehhmaaGreatDoor

/- States taken up anew at a call that is followed, or a round of a loop over a function, and put together again behind it. Loops over functions: a round; the loop. Loops over functions: the loop. -/
import Derived.Test.YtkojpnkknehhmaaGreatDoorL3
import Derived.RangeFuncKeeps
namespace Go.Proofs.YtkojpnkknehhmaaGreatDoor
open Go.RowKit
section
variable {ds:List Deferred} {n:Nat} {μ0:Lay} {ρ0:RO} {w0:World} {ρ:RO} {μ:Lay} {σ:St} {a:Act} {w:World}
def jj (σ:St) (μ:Lay):Lay:=fun b=>if qh σ.bx b then μ b else (0,0)
theorem qL {bx:List (Option Bx)} {b:Nat} (h:qh bx b=true):∃x,bx.getD b none=some x:=Option.isSome_iff_exists.1 h
theorem kW {bx:List (Option Bx)} {b:Nat} {x:Bx} (h:bx.getD b none=some x):qh bx b=true:=by unfold qh;rw[h];rfl
theorem ji {σ:St} {b:Nat} {cs:List AV} (h:σ.box b=some cs):qh σ.bx b=true:=by
 obtain ⟨x,hx,-⟩:=yK h;exact kW hx
theorem Xe {bx:List (Option Bx)} {b:Nat} (h:qh bx b=true):b<bx.length:=by
 rcases Nat.lt_or_ge b bx.length with hb | hb
 ·exact hb
 ·unfold qh at h;simp[List.getD,List.getElem?_eq_none hb] at h
theorem XV {bx:List (Option Bx)} {k b:Nat}:(bx++List.replicate k none).getD b none=bx.getD b none:=by
 simp only[List.getD,List.getElem?_append];split
 ·rfl
 ·rename_i h;rw[List.getElem?_eq_none (by omega:bx.length<=b)];cases hg:(List.replicate k (none:Option Bx))[b-bx.length]? with
  |none=>rfl
  |some y=>rw[List.eq_of_mem_replicate (List.mem_of_getElem? hg)];rfl
theorem K3 {sl:List AV} {bx:List (Option Bx)} {k b:Nat}:({ sl,bx:=bx++List.replicate k none }:St).box b=({ sl,bx }:St).box b:=by
 unfold St.box;rw[XV]
theorem Sat.zA (hs:Sat ds n μ0 ρ0 w0 ρ μ σ a w) (hl:yp σ=true) {sl:List AV} {tm:Array Value} (hz:sl.length=tm.size) (hv:∀t,Rv ρ (some μ) (sl.getD t .undef) (tm.getD t Go.undef))
  (hlv:∀b∈AV.zd sl,qh σ.bx b=true) (k:Nat):Sat [] σ.bx.length (jj σ μ) ρ w ρ (jj σ μ) ⟨sl,σ.bx++List.replicate k none⟩ ⟨tm,[]⟩ w:=by
 simp only[yp,Bool.and_eq_true,List.all_eq_true] at hl;have hμ:∀b,qh σ.bx b=true->jj σ μ b=μ b:=fun b hb=>by simp only[jj,hb,if_true]
 have hbx:∀b cs,({ sl,bx:=σ.bx++List.replicate k none }:St).box b=some cs->σ.box b=some cs:=fun b cs h=>by rw[K3] at h;exact h
 refine { gl:=hs.gl.mono hs.le,dfe:=rfl,defs:=.nil _ _ _,sz:=hz,sl:=fun t=>(hv t).lay fun b hb=>hμ b (hlv b (yT hb)),box:=fun b x hx=>?_,inj:=fun b b' cs cs' h h' hne hk hk'=>?_,sep:=fun b cs h hk=>?_,own:=fun b cs h hk hn=>?_,inc:=fun _ _=>rfl,ro:=hs.ro,le:=RO.le_refl ρ,new:=fun k o h h0=>(by rw[h0] at h;cases h),frame:=fun _ _ _=>rfl,size:=Nat.le_refl _,os:=rfl,tape:=rfl,output:=rfl }
 ·simp only[XV] at hx;have hb:=kW hx;obtain ⟨h1,h2⟩:=hs.box b x hx;refine⟨by rw[hμ b hb];exact h1,?_⟩;rw[hμ b hb];rcases h2 with h2 | ⟨o,h3,h5⟩
  ·exact .inl h2
  ·refine .inr ⟨o,h3,h5.imp rfl fun j cv h6=>?_⟩;unfold lev at h6 ⊢;split
   ·rename_i ha;rw[if_pos ha] at h6;exact h6
   ·rename_i ha;rw[if_neg ha] at h6;refine h6.lay fun b' hb'=>hμ b' ?_
    have hm:some x∈σ.bx:=by
     simp only[List.getD] at hx;cases hg:σ.bx[b]? with
     |none=>rw[hg] at hx;cases hx
     |some y=>rw[hg] at hx;simp only[Option.getD_some] at hx;subst hx;exact List.mem_of_getElem? hg
    have:=hl.2 _ hm;simp only[List.all_eq_true] at this;exact this b' (by unfold Bx.refs;rw[if_neg ha];exact yT hb')
 ·have h1:=hbx b cs h;have h2:=hbx b' cs' h';rw[hμ b (ji h1),hμ b' (ji h2)] at *;exact hs.inj b b' cs cs' h1 h2 hne hk hk'
 ·have h1:=hbx b cs h;rw[hμ b (ji h1)] at *;exact hs.sep b cs h1 hk
 ·have:=Xe (ji (hbx b cs h));omega
def TP (n:Nat) (μ μ1:Lay):Lay:=fun b=>if b<n then μ b else μ1 b
theorem xy {μ1:Lay} {σ1:St} {ds1:List Deferred} {ρ1:RO} {a1:Act} {w1:World} (hi:Sat ds1 σ.bx.length (jj σ μ) ρ w ρ1 μ1 σ1 a1 w1) (hb:qA n σ.bx σ1.bx=true) {b:Nat} (h:qh σ1.bx b=true) :
  TP n μ μ1 b=μ1 b:=by
 simp only[qA,Bool.and_eq_true,List.all_eq_true,List.mem_range] at hb;show (if b<n then μ b else μ1 b)=_;split
 ·rename_i hn;have h1:=hb.1 b hn;rw[h] at h1;have h1:qh σ.bx b=true:=by simpa using h1
  rw[hi.inc b (Xe h1)];simp only[jj,h1,if_true]
 ·rfl
theorem Sat.compose (hs:Sat ds n μ0 ρ0 w0 ρ μ σ a w) (hl:yp σ=true) {ρ1:RO} {μ1:Lay} {σ1:St} {a1:Act} {w1:World} {ds1:List Deferred} (hi:Sat ds1 σ.bx.length (jj σ μ) ρ w ρ1 μ1 σ1 a1 w1)
  (hb:qA n σ.bx σ1.bx=true):Sat ds n μ0 ρ0 w0 ρ1 (TP n μ μ1) ⟨σ.sl,σ1.bx⟩ a w1:=by
 simp only[yp,Bool.and_eq_true,List.all_eq_true] at hl;have lay:=fun {b:Nat} (h:qh σ1.bx b=true)=>xy hi hb h
 have hb2:=hb;simp only[qA,Bool.and_eq_true,List.all_eq_true,List.mem_range] at hb2;have hbox:∀b cs,(⟨σ.sl,σ1.bx⟩:St).box b=some cs->σ1.box b=some cs:=fun b cs h=>h
 have hμ:∀b,qh σ.bx b=true->TP n μ μ1 b=μ b:=fun b hb=>by
  show (if b<n then μ b else μ1 b)=_;split
  ·rfl
  ·rw[hi.inc b (Xe hb)];simp only[jj,hb,if_true]
 have lift:∀k,Own σ.bx.length (jj σ μ) w k->Own n μ0 w0 k:=by
  rintro k (h | ⟨c,hc,h0,rfl⟩)
  ·have:=hs.size;exact .inl (by omega)
  ·unfold jj at h0 ⊢;split at h0
   ·rename_i hlv;rw[if_pos hlv];obtain ⟨x,hx⟩:=qL hlv;exact hs.zT (yi hx) h0
   ·exact absurd rfl h0
 refine { gl:=hs.gl,dfe:=hs.dfe,defs:=hs.defs.mono hi.le,sz:=hs.sz,sl:=fun t=>((hs.sl t).lay fun b hb=>hμ b (hl.1 b (yT hb))).mono hi.le,box:=fun b x hx=>?_,inj:=fun b b' cs cs' h h' hne hk hk'=>?_,sep:=fun b cs h hk=>?_,own:=fun b cs h hk hb=>?_,inc:=fun b hb=>?_,ro:=hi.ro,le:=hs.le.trans hi.le,new:=fun k o h h0=>?_,frame:=fun k hk hb=>?_,size:=Nat.le_trans hs.size hi.size,os:=hi.os.trans hs.os,tape:=hi.tape.trans hs.tape,output:=hi.output.trans hs.output }
 ·obtain ⟨h1,h2⟩:=hi.box b x hx;have hb':=lay (kW hx);refine⟨by rw[hb'];exact h1,?_⟩;rw[hb'];rcases h2 with h2 | ⟨o,h3,h5⟩
  ·exact .inl h2
  ·refine .inr ⟨o,h3,h5.imp rfl fun j cv h6=>?_⟩;unfold lev at h6 ⊢;split
   ·rename_i ha;rw[if_pos ha] at h6;exact h6
   ·rename_i ha;rw[if_neg ha] at h6;refine h6.lay fun b' hb'=>lay ?_
    have hm:some x∈σ1.bx:=by
     simp only[List.getD] at hx;cases hg:σ1.bx[b]? with
     |none=>rw[hg] at hx;cases hx
     |some y=>rw[hg] at hx;simp only[Option.getD_some] at hx;subst hx;exact List.mem_of_getElem? hg
    have:=hb2.2 _ hm;simp only[List.all_eq_true] at this;exact this b' (by unfold Bx.refs;rw[if_neg ha];exact yT hb')
 ·have h1:=lay (ji (hbox b cs h));have h2:=lay (ji (hbox b' cs' h'));rw[h1] at hk ⊢;rw[h2] at hk' ⊢;exact hi.inj b b' cs cs' h h' hne hk hk'
 ·have h1:=lay (ji (hbox b cs h));rw[h1] at hk ⊢;exact hi.sep b cs h hk
 ·have h1:=lay (ji (hbox b cs h));rw[h1] at hk ⊢;rcases Nat.lt_or_ge b σ.bx.length with hlt | hge
  ·rw[hi.inc b hlt] at hk ⊢;unfold jj at hk ⊢;split at hk
   ·rename_i hb';rw[if_pos hb'];obtain ⟨x,hx⟩:=qL hb';exact hs.own b _ (yi hx) hk hb
   ·exact absurd rfl hk
  ·exact lift _ (hi.own b cs h hk hge)
 ·show (if b<n then μ b else μ1 b)=_;rw[if_pos hb,hs.inc b hb]
 ·cases hk:ρ k with
  |some o'=>exact hs.new k o' hk h0
  |none=>exact lift _ (hi.new k o h hk)
 ·rw[hi.frame k (by have:=hs.size;omega) fun b hb' hk' he=>?_]
  ·exact hs.frame k hk hb
  ·unfold jj at hk' he;split at hk'
   ·rename_i hlv;rw[if_pos hlv] at he;rcases Nat.lt_or_ge b n with hbn | hbn
    ·rw[hs.inc b hbn] at hk' he;exact hb b hbn hk' he
    ·obtain ⟨x,hx⟩:=qL hlv;rcases hs.own b _ (yi hx) hk' hbn with h' | ⟨c,hc,h0,he'⟩
     ·omega
     ·exact hb c hc h0 (he.trans he')
   ·exact absurd rfl hk'
theorem Sat.turn (hs:Sat ds n μ0 ρ0 w0 ρ μ σ a w) {T:Nat->Prop} {w':World} (hsz:w.heap.size<=w'.heap.size) (hT:∀k,k<w.heap.size->¬ T k->w'.heap[k]? = w.heap[k]?) (hro:∀k,T k->ρ k=none)
  (hbx:∀b x,σ.bx.getD b none=some x->(μ b).2≠0->¬ T (μ b).1) (hown:∀k,T k->Own n μ0 w0 k) (hos:w'.os=w.os) (ht:w'.tape=w.tape) (hout:w'.output=w.output):Sat ds n μ0 ρ0 w0 ρ μ σ a w' :=
 {hs with
  box:=fun b x hx=>by
   obtain ⟨h1,h2⟩:=hs.box b x hx;refine⟨h1,?_⟩;by_cases hk:(μ b).2=0
   ·exact .inl hk
   ·rcases h2 with h2 | ⟨o,h3,h5⟩
    ·exact absurd h2 hk
    ·exact .inr ⟨o,by rw[hT _ (Array.getElem?_eq_some_iff.1 h3).1 (hbx b x hx hk)];exact h3,h5⟩
  ro:=fun k o hk=>by
   have:=hs.ro k o hk;rw[hT k (Array.getElem?_eq_some_iff.1 this).1 (fun h=>by rw[hro k h] at hk;cases hk)];exact this
  frame:=fun k hk hb=>by
   rw[hT k (by have:=hs.size;omega) (fun h=>by
    rcases hown k h with h' | ⟨c,hc,h0,he⟩
    ·omega
    ·exact hb c hc h0 he)]
   exact hs.frame k hk hb
  size:=Nat.le_trans hs.size hsz
  os:=hos.trans hs.os
  tape:=ht.trans hs.tape
  output:=hout.trans hs.output }
theorem Sat.sub (hs:Sat ds n μ0 ρ0 w0 ρ μ σ a w) {τ:St} (hl:τ.sl.length=σ.sl.length) (hsl:∀t,τ.sl.getD t .undef=σ.sl.getD t .undef\/τ.sl.getD t .undef=.undef)
  (hbx:∀b x,τ.bx.getD b none=some x->σ.bx.getD b none=some x):Sat ds n μ0 ρ0 w0 ρ μ τ a w:=by
 have hbox:∀b cs,τ.box b=some cs->σ.box b=some cs:=fun b cs h=>by
  obtain ⟨x,hx,rfl⟩:=yK h;exact yi (hbx b x hx)
 exact { hs with
  sz:=by rw[hl];exact hs.sz
  sl:=fun t=>by
   rcases hsl t with h | h<;>rw[h]
   ·exact hs.sl t
   ·exact .undef ..
  box:=fun b x hx=>hs.box b x (hbx b x hx)
  inj:=fun b b' cs cs' h h'=>hs.inj b b' cs cs' (hbox b cs h) (hbox b' cs' h')
  sep:=fun b cs h=>hs.sep b cs (hbox b cs h)
  own:=fun b cs h=>hs.own b cs (hbox b cs h) }
theorem Sat.mark (hs:Sat ds n μ0 ρ0 w0 ρ μ σ a w) {D:Nat} (h1:ρ D=some (.deferred (some []))) (h2:ρ0 D=none) (h3:w0.heap.size<=D) (h4:∀d∈ds,d≠{ target:=.collected D,args:=#[] }) :
  Sat ({ target:=.collected D,args:=#[] }::ds) n μ0 ρ0 w0 ρ μ σ { a with defers:={ target:=.collected D,args:=#[] }::a.defers } w:=by
 obtain ⟨Ds,e1,e2,e3⟩:=hs.defs;refine { hs with dfe:=by simp[hs.dfe],defs:=⟨D::Ds,by simp[e1],List.nodup_cons.2 ⟨fun hm=>?_,e2⟩,fun D' hD'=>?_⟩ }
 ·refine h4 { target:=.collected D,args:=#[] } ?_ rfl;rw[e1];exact List.mem_map.2 ⟨D,hm,rfl⟩
 ·rcases List.mem_cons.1 hD' with rfl | hD'
  ·exact⟨h1,h2,h3⟩
  ·exact e3 D' hD'
theorem Sat.apart (hi:Sat ds n μ0 ρ0 w0 ρ μ σ a w) {T:Nat->Prop} (h:∀b,b<n->(μ0 b).2≠0->¬ T (μ0 b).1) (hT:∀k,T k->k<w0.heap.size):∀b x,σ.bx.getD b none=some x->(μ b).2≠0->¬ T (μ b).1:=by
 intro b x hx hk ht;rcases Nat.lt_or_ge b n with hb | hb
 ·rw[hi.inc b hb] at hk ht;exact h b hb hk ht
 ·rcases hi.own b _ (yi hx) hk hb with h' | ⟨c,hc,h0,he⟩
  ·have:=hT _ ht;omega
  ·exact h c hc h0 (he▸ht)
theorem Sat.zB (hi:Sat ds n μ0 ρ0 w0 ρ μ σ a w) {T:Nat->Prop} (h:∀k,T k->ρ0 k=none) (hT:∀k,T k->k<w0.heap.size) (hb:∀b,b<n->(μ0 b).2≠0->¬ T (μ0 b).1):∀k,T k->ρ k=none:=by
 intro k hk;cases hr:ρ k with
 |none=>rfl
 |some o =>
  rcases hi.new k o hr (h k hk) with h' | ⟨c,hc,h0,he⟩
  ·have:=hT k hk;omega
  ·exact absurd (he▸hk) (hb c hc h0)
open Classical in
theorem Sat.zL {σ':St} (hs:Sat ds n μ0 ρ0 w0 ρ μ σ a w) (hw:xQ n σ σ') {T:Nat->Prop} (hT:∀b x,σ.bx.getD b none=some x->(μ b).2≠0->¬ T (μ b).1) :
  ∃μ',Sat ds n μ0 ρ0 w0 ρ μ' σ' a w/\∀b x,σ'.bx.getD b none=some x->(μ' b).2≠0->¬ T (μ' b).1:=by
 obtain ⟨⟨h,h1,h2,h3,h4,h5⟩,hl⟩:=hw;let μ':Lay:=fun b'=>if b'<n then μ b' else if hx:∃b,h b=some b' then μ (Classical.choose hx) else (0,0)
 have hμ:∀b b',h b=some b'->μ' b'=μ b:=by
  intro b b' hb;by_cases hlt:b'<n
  ·simp only[μ',if_pos hlt];rw[h1 b b' hb hlt]
  have hx:∃b,h b=some b':=⟨b,hb⟩;simp only[μ',if_neg hlt,dif_pos hx];rw[h3 _ b b' (Classical.choose_spec hx) hb]
 have hμ0:∀b',n<=b'->(∀b,h b≠some b')->μ' b'=(0,0):=by
  intro b' hn hb;simp only[μ'];rw[if_neg (by omega),dif_neg (fun⟨b,hx⟩=>hb b hx)]
 have hlive:∀b' x',σ'.bx.getD b' none=some x'->(μ' b').2≠0->∃b x,h b=some b'/\σ.bx.getD b none=some x:=by
  intro b' x' hx' hk;rcases h5 b' x' hx' with ⟨b,x,g1,g2,_⟩ | ⟨_,gn,g⟩
  ·exact⟨b,x,g1,g2⟩
  ·rw[hμ0 b' gn g] at hk;exact absurd rfl hk
 refine⟨μ',{ hs with sz:=by rw[hl];exact hs.sz,sl:=fun t=>Xl (h4 t) ((hs.sl t).zj hμ),box:=?_,inj:=?_,sep:=?_,own:=?_,inc:=?_ },fun b' x' hx' hk=>?_⟩
 ·intro b' x' hx';rcases h5 b' x' hx' with ⟨b,x,g1,g2,g3,g4,g6,g5⟩ | ⟨g1,gn,g⟩
  ·obtain ⟨k1,k2⟩:=hs.box b x g2;have hm:=hμ b b' g1;refine⟨by rw[hm,g4];exact k1,?_⟩;rw[hm];rcases k2 with k2 | ⟨o,k3,k5⟩
   ·exact .inl k2
   ·refine .inr ⟨o,k3,k5.imp g6 fun j cv h7=>?_⟩;have h6:=g5 j;unfold lev at h7 ⊢;rw[g3];by_cases ha:x.arr=true
    ·rw[if_pos ha] at h6 h7 ⊢;exact Sc h6 h7
    ·rw[if_neg ha] at h6 h7 ⊢;exact Xl h6 (h7.zj hμ)
  ·exact⟨by rw[g1];exact Nat.zero_le _,.inl (by rw[hμ0 b' gn g])⟩
 ·intro b b' cs cs' hb hb' hne hk hk';obtain ⟨y,hy,-⟩:=yK hb;obtain ⟨y',hy',-⟩:=yK hb';obtain ⟨c,x,g1,g2⟩:=hlive b y hy hk;obtain ⟨c',x',g1',g2'⟩:=hlive b' y' hy' hk';rw[hμ c b g1,hμ c' b' g1'] at *;refine hs.inj c c' _ _ (yi g2) (yi g2') ?_ hk hk';rintro rfl;rw[g1] at g1';exact hne (Option.some.inj g1')
 ·intro b cs hb hk;obtain ⟨y,hy,-⟩:=yK hb;obtain ⟨c,x,g1,g2⟩:=hlive b y hy hk;rw[hμ c b g1] at *;exact hs.sep c _ (yi g2) hk
 ·intro b cs hb hk hn;obtain ⟨y,hy,-⟩:=yK hb;obtain ⟨c,x,g1,g2⟩:=hlive b y hy hk;rw[hμ c b g1] at *;exact hs.zT (yi g2) hk
 ·intro b hb;simp only[μ',if_pos hb];exact hs.inc b hb
 ·obtain ⟨c,x,g1,g2⟩:=hlive b' x' hx' hk;rw[hμ c b' g1] at *;exact hT c x g2 hk
end
def Ex.to:Ex->Exit
 |.normal=>.normal
 |.exit id=>.exit id
 |.ret=>.ret
section
variable {P:Program} {S:Specs} {ctl:Ctl}
def Qk (P:Program) (S:Specs) (ctl:Ctl) (c:Code) (ro:Option Nat):Prop :=
 ∀ {ds:List Deferred} {n:Nat} {μ0:Lay} {ρ0:RO} {w0:World} (K:Ex->St->Prop) (Q:Exit->Act->World->Prop) (ρ:RO) (μ:Lay) (σ:St) (a:Act) (w:World),
  (∀(e:Ex) (a:Act) (w:World) (ds':List Deferred),(yB c=true->ds'=ds)->At ds' n μ0 ρ0 w0 (K e) a w->Q e.to a w) ->
  Sat ds n μ0 ρ0 w0 ρ μ σ a w->awp P S n ctl c σ K->c.wpIn (Fr ro) 0 P Q a w
def Qw (P:Program) (S:Specs) (ctl:Ctl) (body:Code) (m:Nat) (bx:List (Option Bx)) (K':Ex->St->Prop):Ex->St->Prop:=fun e σa=>match e with
 |.normal=>if yp σa && (List.range m).all (fun b=>qh bx b == qh σa.bx b) then qO P S ctl body σa.bx.length (σa.more (σa.sl.length+8)) K' else False
 |_=>False
structure zaG (ds:List Deferred) (n:Nat) (μ0:Lay) (ρ0:RO) (w0:World) (T:Nat->Prop) (l:Nat) (r:Loop) (ρ:RO) (a:Act) (W:World) (ρ3:RO) (μ3:Lay) (σ:St) (w3:World):Prop where
 sat:Sat ds n μ0 ρ0 w0 ρ3 μ3 σ a w3
 le:ρ.le ρ3
 ro:∀k,T k->ρ3 k=none
 bx:∀b x,σ.bx.getD b none=some x->(μ3 b).2≠0->¬ T (μ3 b).1
 same:∀k,T k->k≠l->w3.heap[k]? = W.heap[k]?
 loop:w3.heap[l]? = some (.loop { r with state:=.busy })
 size:W.heap.size<=w3.heap.size
 os:w3.os=W.os
 tape:w3.tape=W.tape
 output:w3.output=W.output
theorem OZ {l:Nat} {assign body:Code} (hA:Qk P S ctl assign (some l)) (hB:Qk P S ctl body (some l)) (na:yB assign=true)
  {ds:List Deferred} {n:Nat} {μ0:Lay} {ρ0:RO} {w0:World} {ρ:RO} {μ:Lay} {τ:St} {a:Act} {W:World} (hs:Sat ds n μ0 ρ0 w0 ρ μ τ a W) (hlive:yp τ=true) (hn:n<=τ.bx.length)
  {r:Loop} (hl:W.heap[l]? = some (.loop r)) (hr:r.state=.ready) (hlo:w0.heap.size<=l)
  {T:Nat->Prop} (hTl:T l) (hTlt:∀k,T k->k<W.heap.size) (hTρ:∀k,T k->ρ k=none) (hTb:∀b x,τ.bx.getD b none=some x->(μ b).2≠0->¬ T (μ b).1)
  {sl:List AV} {tm:Array Value} (hz:sl.length=tm.size) (hv:∀t,Rv ρ (some μ) (sl.getD t .undef) (tm.getD t Go.undef)) (hlv:∀b∈AV.zd sl,qh τ.bx b=true)
  {K':Ex->St->Prop} (h:qO P S ctl assign τ.bx.length ⟨sl,τ.bx++List.replicate sl.length none⟩ (Qw P S ctl body τ.bx.length (τ.bx++List.replicate sl.length none) fun e σ1=>if qA n τ.bx σ1.bx then K' e σ1 else False)) :
  assign.wpIn (Fr (some l)) 0 P (Exit.then (fun a1 w1=>∃w2,(Instr.beginRound l).run P w1=.ok () w2/\body.wpIn (Fr (some l)) 0 P (fun e _ w3=>∃ex ρ3 μ3 σ3,e=Ex.to ex/\K' ex σ3 /\
   zaG ds n μ0 ρ0 w0 T l r ρ a W ρ3 μ3 ⟨τ.sl,σ3.bx⟩ w3) a1 w2) (fun _ _ _=>False)) ⟨tm,[]⟩ W:=by
 have h1:=hs.zA hlive hz hv hlv sl.length;refine hA _ _ _ _ _ _ _ ?_ h1 h;rintro e a1 w1 ds' hds ⟨ρa,μa,σa,hi,hk⟩;obtain rfl:=hds na;cases e with
 |exit i=>exact hk.elim
 |ret=>exact hk.elim
 |normal =>
  show ∃w2,(Instr.beginRound l).run P w1=.ok () w2/\_;simp only[Qw] at hk;split at hk
  case isFalse=>exact hk.elim
  rename_i hc;rw[Bool.and_eq_true] at hc;obtain ⟨hla,hkeep⟩:=hc;have hkeq:∀b,b<τ.bx.length->qh τ.bx b=qh σa.bx b:=by
   intro b hb;have hb':qh (τ.bx++List.replicate sl.length none) b=qh τ.bx b:=by unfold qh;rw[XV]
   have:=List.all_eq_true.1 hkeep b (List.mem_range.2 hb);rw[hb'] at this;simpa using this
  have hkeep':∀b,qh τ.bx b=true->qh σa.bx b=true:=fun b hb=>by rw[<- hkeq b (Xe hb)];exact hb
  have hT0:∀b,b<τ.bx.length->(jj τ μ b).2≠0->¬ T (jj τ μ b).1:=by
   intro b _ hk;unfold jj at hk ⊢;split at hk
   ·rename_i hb;rw[if_pos hb];obtain ⟨x,hx⟩:=qL hb;exact hTb b x hx hk
   ·exact absurd rfl hk
  have ap1:=hi.apart (T:=T) hT0 hTlt;have ar1:=hi.zB (T:=T) hTρ hTlt hT0;have fr1:∀k,T k->w1.heap[k]? = W.heap[k]?:=fun k hk=>hi.frame k (hTlt k hk) (fun b hb hb2 he=>hT0 b hb hb2 (he▸hk))
  have hl1:=(fr1 l hTl).trans hl;have hsz1:=hi.size;have hcb:qA n τ.bx σa.bx=true:=by
   simp only[qA,Bool.and_eq_true];simp only[yp,Bool.and_eq_true] at hla;refine⟨List.all_eq_true.2 fun b hb=>?_,hla.2⟩;rw[hkeq b (by have:=List.mem_range.1 hb;omega)];cases qh σa.bx b<;>rfl
  have c1:=hs.compose hlive hi hcb;obtain ⟨μc,hμc⟩:∃μc:Lay,TP n μ μa=μc:=⟨_,rfl⟩;have hlc:∀b,qh σa.bx b=true->μc b=μa b:=fun b hb=>by rw[<- hμc];exact xy hi hcb hb
  rw[hμc] at c1;have c2:Sat ds n μ0 ρ0 w0 ρa μc ⟨τ.sl,σa.bx⟩ a (w1.putObj l (.loop { r with state:=.busy })) :=
   c1.turn (T:=(·=l)) (by simp) (fun k _ hk=>World.putObj_heap_other hk) (fun k hk=>hk▸ar1 l hTl) (fun b x hx hk he=>by
    rw[hlc b (kW hx)] at hk he;exact ap1 b x hx hk (by rw[he];exact hTl)) (fun k hk=>.inl (hk▸hlo)) rfl rfl rfl
  refine⟨_,run_beginRound hl1 hr,?_⟩;have hla':=hla;simp only[yp,Bool.and_eq_true,List.all_eq_true] at hla' hlive;have hlive2:yp ⟨τ.sl,σa.bx⟩=true:=by
   simp only[yp,Bool.and_eq_true,List.all_eq_true];exact⟨fun b hb=>hkeep' b (hlive.1 b hb),hla'.2⟩
  have h2:=c2.zA hlive2 (sl:=σa.sl) (tm:=a1.tmps) hi.sz (fun t=>(hi.sl t).lay fun b hb=>hlc b (hla'.1 b (yT hb))) (fun b hb=>hla'.1 b hb) (σa.sl.length+8);have ha1:a1=⟨a1.tmps,[]⟩:=by have:=hi.dfe;cases a1;simp_all
  rw[ha1];refine hB _ _ _ _ _ _ _ ?_ h2 hk;rintro e a3 w3 ds'' _ ⟨ρb,μb,σb,hj,hk3⟩;have hlt2:∀k,T k->k<(w1.putObj l (.loop { r with state:=.busy })).heap.size:=fun k hk=>by rw[World.putObj_size];have:=hTlt k hk;omega
  have hT2:∀b,b<σa.bx.length->(jj ⟨τ.sl,σa.bx⟩ μc b).2≠0->¬ T (jj ⟨τ.sl,σa.bx⟩ μc b).1:=by
   intro b _ hk;unfold jj at hk ⊢;split at hk
   ·rename_i hb;rw[if_pos hb];obtain ⟨x,hx⟩:=qL hb;rw[hlc b hb] at hk ⊢;exact ap1 b x hx hk
   ·exact absurd rfl hk
  have fr2:∀k,T k->w3.heap[k]? = (w1.putObj l (.loop { r with state:=.busy })).heap[k]?:=fun k hk=>hj.frame k (hlt2 k hk) (fun b hb hb2 he=>hT2 b hb hb2 (he▸hk))
  split at hk3
  case isFalse=>exact hk3.elim
  rename_i hbk;have hcb2:qA n σa.bx σb.bx=true:=by
   simp only[qA,Bool.and_eq_true] at hbk ⊢;refine⟨List.all_eq_true.2 fun b hb=>?_,hbk.2⟩;have:=List.all_eq_true.1 hbk.1 b hb;rw[hkeq b (by have:=List.mem_range.1 hb;omega)] at this;exact this
  have ap2:=hj.apart (T:=T) hT2 hlt2;have hbx2:∀b x,σb.bx.getD b none=some x->(TP n μc μb b).2≠0->¬ T (TP n μc μb b).1:=fun b x hx hk=>by
   have hb:=xy (σ:=⟨τ.sl,σa.bx⟩) (n:=n) hj hcb2 (kW hx);rw[hb] at hk ⊢;exact ap2 b x hx hk
  refine⟨e,ρb,_,σb,rfl,hk3,{ sat:=c2.compose hlive2 hj hcb2,le:=hi.le.trans hj.le,ro:=hj.zB (T:=T) ar1 hlt2 hT2,bx:=hbx2,same:=fun k hk hne=>?_,loop:=?_,size:=?_,os:=hj.os.trans hi.os,tape:=hj.tape.trans hi.tape,output:=hj.output.trans hi.output }⟩
  ·rw[fr2 k hk,World.putObj_heap_other hne,fr1 k hk]
  ·rw[fr2 l hTl];exact World.putObj_heap_same (by have:=hTlt l hTl;omega)
  ·have:=hj.size;rw[World.putObj_size] at this;omega
end
theorem SP {l:List AV}:∀(ts:List Nat) (t:Nat),(ts.foldl (fun l t=>l.set t .undef) l).getD t .undef=l.getD t .undef\/(ts.foldl (fun l t=>l.set t .undef) l).getD t .undef=.undef:=by
 intro ts;induction ts generalizing l with
 |nil=>intro t;exact .inl rfl
 |cons x r ih =>
  intro t;simp only[List.foldl_cons];rcases ih (l:=l.set x .undef) t with h | h
  ·rw[h,qm];split
   ·exact .inr rfl
   ·exact .inl rfl
  ·exact .inr h
theorem X7:∀(ps:List Nat) (x:List AV) (sl:List AV),(jP sl ps x).length=sl.length:=by
 intro ps;induction ps with
 |nil=>intro x sl;cases x<;>rfl
 |cons p ps ih =>
  intro x sl;cases x with
  |nil=>rfl
  |cons v x=>simp only[jP,ih,List.length_set]
theorem Jz {ρ:RO} {μ:Option Lay}:∀(ps:List Nat) (x:List AV) (ys:List Value) (sl:List AV) (tm:Array Value),sl.length=tm.size->x.length=ys.length->(∀j,Rv ρ μ (x.getD j .undef) (ys.getD j Go.undef)) ->
  (∀t,Rv ρ μ (sl.getD t .undef) (tm.getD t Go.undef))->ps.length=x.length ->
  ((ps.zip ys).foldl (fun t q=>t.setIfInBounds q.1 q.2) tm).size=tm.size/\∀t,Rv ρ μ ((jP sl ps x).getD t .undef) (((ps.zip ys).foldl (fun t q=>t.setIfInBounds q.1 q.2) tm).getD t Go.undef):=by
 intro ps;induction ps with
 |nil=>intro x ys sl tm _ _ _ h _;exact⟨rfl,by simpa[jP] using h⟩
 |cons p ps ih =>
  intro x ys sl tm hz hl hx h hp;cases x with
  |nil=>simp at hp
  |cons v x =>
   cases ys with
   |nil=>simp at hl
   |cons y ys =>
    simp only[List.zip_cons_cons,List.foldl_cons,jP];obtain ⟨h1,h2⟩:=ih x ys (sl.set p v) (tm.setIfInBounds p y) (by simp[hz]) (by simpa using hl) (fun j=>by simpa using hx (j+1)) (fun t=>by
     rw[qm,jW,hz];split
     ·exact hx 0
     ·exact h t) (by simpa using hp)
    exact⟨by rw[h1];simp,h2⟩
mutual
theorem Wa (v:AV) (ht:v.tree=true):v.refs=[]:=by
 cases v with
 |ref b off=>simp[AV.tree] at ht
 |aslc b off len esz ag=>simp[AV.tree] at ht
 |map b=>simp[AV.tree] at ht
 |fn f a b =>
  simp only[AV.tree,Bool.and_eq_true] at ht;simp only[AV.refs];rw[kS a ht.1,kS b ht.2];rfl
 |iface t v=>simp only[AV.refs];exact Wa v (by simpa[AV.tree] using ht)
 |eptr cs off=>simp only[AV.refs];exact kS cs (by simpa[AV.tree] using ht)
 |agg cs=>simp only[AV.refs];exact kS cs (by simpa[AV.tree] using ht)
 |tup cs=>simp only[AV.refs];exact kS cs (by simpa[AV.tree] using ht)
 |_=>rfl
theorem kS (l:List AV) (ht:AV.zi l=true):AV.zd l=[]:=by
 cases l with
 |nil=>rfl
 |cons x r =>
  simp only[AV.zi,Bool.and_eq_true] at ht;simp only[AV.zd];rw[Wa x ht.1,kS r ht.2];rfl
end
theorem O4 {b:Nat}:∀(ps:List Nat) (x:List AV) (sl:List AV),b∈AV.zd (jP sl ps x)->AV.zi x=true->b∈AV.zd sl:=by
 intro ps;induction ps with
 |nil=>intro x sl h _;cases x<;>exact h
 |cons p ps ih =>
  intro x sl h ht;cases x with
  |nil=>exact h
  |cons v x =>
   simp only[AV.zi,Bool.and_eq_true] at ht;have h:=ih x _ h ht.2;obtain ⟨j,hj,hm⟩:=X4 h;have:b∈((sl.set p v).getD j .undef).refs:=hm;rw[qm] at this;split at this
   ·have hn:v.refs=[]:=Wa v ht.1;rw[hn] at this;cases this
   ·exact yT this
def Ex.code:Ex->Option Code
 |.normal=>none
 |.exit id=>some (.exit id)
 |.ret=>some .ret
theorem wh:∀(l:List AV),(AV.zo l).length=l.length
 |[]=>rfl
 |_::r=>congrArg (·+1) (wh r)
theorem uV {l:List AV} {j:Nat}:(AV.zo l).getD j .undef=(l.getD j .undef).zZ:=by
 induction l generalizing j with
 |nil=>rfl
 |cons x r ih =>
  cases j with
  |zero=>rfl
  |succ j=>simpa[AV.zo] using ih (j:=j)
theorem Rv.zZ {ρ:RO} {μ:Option Lay} {v:AV} {cv:Value} (hv:Rv ρ μ v cv):Rv ρ μ v.zZ cv:=by
 induction hv with
 |undef μ v=>exact .undef μ v
 |tt μ=>exact .tt μ
 |ff μ=>exact .ff μ
 |bool μ b=>exact .bool μ b
 |lit μ k n=>exact .lit μ k n
 |int μ k n=>exact .int μ k n
 |str μ s=>exact .str μ s
 |nilp μ=>exact .nilp μ
 |eptr μ cs b o off c hc h ih=>exact .eptr μ (AV.zo cs) b o off c (fun j hj=>hc j (by rw[wh] at hj;exact hj)) (fun j=>by rw[uV];exact ih j)
 |ref μ b off=>exact .ref μ b off
 |nilslc μ m=>exact .nilslc μ m
 |eslc μ m a hm=>exact .eslc μ m a hm
 |slc μ m es b o cap k c hm hcap h2 hk hc h _=>exact .slc μ m es b o cap k c hm hcap h2 hk hc h
 |aslc μ b off len esz ag cap hcap hr=>exact .aslc μ b off len esz ag cap hcap hr
 |aslc0 μ b esz ag a=>exact .aslc0 μ b esz ag a
 |fn μ f first caps vf vc hf hc h1 h2 _ _=>exact .fn μ f first caps vf vc hf hc h1 h2
 |nilfn μ=>exact .nilfn μ
 |iface μ t v v' h _=>exact .iface μ t v v' h
 |nilif μ=>exact .nilif μ
 |agg μ cs vs hl h ih=>exact .agg μ (AV.zo cs) vs (by rw[wh];exact hl) (fun j=>by rw[uV];exact ih j)
 |tup μ cs vs hl h _=>exact .tup μ cs vs hl h
 |map μ b=>exact .undef ..
 |nilmap μ=>exact .nilmap μ
 |yld μ l=>exact .yld μ l
def HL (N:Nat->St->St->Prop) (K:Ex->St->Prop) (i:Nat) (τ:St) (e:Ex) (σ1:St):Prop:=match e with
 |.normal=>N i τ ⟨τ.sl,σ1.bx⟩
 |e=>K e ⟨τ.sl,σ1.bx⟩
theorem KX (cs:List AV):ql (AV.zo cs)=ql cs:=by
 match cs with
 |[]=>rfl
 |[x]=>cases x<;>rfl
 |_::_::_=>rfl
theorem Lu {P:Program} {n:Nat} {keep:List Nat} {xs:List (List AV)} {ps:List Nat} {F:St->(Ex->St->Prop)->Prop} {p:Pat} {σ0:St} {K:Ex->St->Prop} (hyl:p.yl.length=ps.length) (hpat:xH [] p=true)
  (h:if p.un.any List.isEmpty=true then
    (∀x∈xs,qZ p.yl x=true/\AV.zi x=true)/\(xs=[]->K .normal σ0) /\
    ∃I:Nat->List AV->Prop,(YQ (p.res n σ0).yl fun x=>xs[0]? = some x ->
      if yp σ0 && decide (n<=σ0.bx.length) then F ⟨jP σ0.sl ps x,σ0.bx++List.replicate σ0.sl.length none⟩ fun e σ1=>if qA n σ0.bx σ1.bx then (match e with
       |.normal=>qb P n keep [] (p.res n σ0) false σ0 ⟨σ0.sl,σ1.bx⟩ (I 1)
       |e=>K e ⟨σ0.sl,σ1.bx⟩) else False
      else False) /\
     (∀i:Nat,YQ (p.res n σ0).yl fun x=>xs[i+1]? = some x->jI P n keep [] (p.res n σ0) σ0 fun vs τ=>I (i+1) vs ->
      if yp τ && decide (n<=τ.bx.length) then F ⟨jP τ.sl ps x,τ.bx++List.replicate τ.sl.length none⟩ fun e σ1=>if qA n τ.bx σ1.bx then (match e with
       |.normal=>qb P n keep [] (p.res n σ0) false σ0 ⟨τ.sl,σ1.bx⟩ (I (i+2))
       |e=>K e ⟨τ.sl,σ1.bx⟩) else False
      else False) /\
     jI P n keep [] (p.res n σ0) σ0 fun vs τ=>I xs.length vs->K .normal τ
   else if p.un.isEmpty=false then ((p.un.all fun x=>AV.zi x && x.length == ps.length)=true/\xs=p.un)/\YG n ps F K p.un σ0 else
   (∀x∈xs,qZ p.yl x=true/\AV.zi x=true) /\
   ∃I:Nat->List AV->Prop,qb P n keep [] (p.res n σ0) true σ0 σ0 (I 0) /\
    (∀i:Nat,YQ (p.res n σ0).yl fun x=>xs[i]? = some x->jI P n keep [] (p.res n σ0) σ0 fun vs τ=>I i vs ->
     if yp τ && decide (n<=τ.bx.length) then F ⟨jP τ.sl ps x,τ.bx++List.replicate τ.sl.length none⟩ fun e σ1=>if qA n τ.bx σ1.bx then (match e with
      |.normal=>qb P n keep [] (p.res n σ0) false σ0 ⟨τ.sl,σ1.bx⟩ (I (i+1))
      |e=>K e ⟨τ.sl,σ1.bx⟩) else False
     else False) /\
    jI P n keep [] (p.res n σ0) σ0 fun vs τ=>I xs.length vs->K .normal τ) :
  (∀x∈xs,x.length=ps.length/\AV.zi x=true)/\∃(HD:Nat->St->Prop) (N:Nat->St->St->Prop),(∃τ0,(τ0=σ0\/xQ n σ0 τ0)/\HD 0 τ0) /\
   (∀i x τ,xs[i]? = some x->HD i τ->(if yp τ && decide (n<=τ.bx.length) then F ⟨jP τ.sl ps x,τ.bx++List.replicate τ.sl.length none⟩ (fun e σ1=>if qA n τ.bx σ1.bx then HL N K i τ e σ1 else False) else False)) /\
   (∀i τ bx,HD i τ->N i τ ⟨τ.sl,bx⟩->∃τ',(τ'=⟨τ.sl,bx⟩\/xQ n ⟨τ.sl,bx⟩ τ')/\HD (i+1) τ') /\
   ∀τ,HD xs.length τ->K .normal τ:=by
 split at h
 ·obtain ⟨hxs,hnil,I,hfirst,hround,hend⟩:=h;generalize hp':p.res n σ0=p' at hfirst hround hend;have hin:xH [] p'=true:=by rw[<- hp'];exact hpat
  have hylp:p'.yl=p.yl:=by rw[<- hp'];rfl
  refine⟨fun x hx=>⟨by rw[<- uu _ _ (hxs x hx).1];exact hyl,(hxs x hx).2⟩,fun i τ=>(i=0/\τ=σ0)\/(0<i/\∃gs ls bs',I i (xz gs ls bs')/\qZ (p'.gen.map (·.2)) gs=true/\ls.length=p'.app.length+p'.cap.length/\qZ (p'.bgen.map (·.2)) bs'=true /\
   τ=wL p'.cap (qP P n (keep++qI σ0.sl.length p'.cap) ([]++qI σ0.sl.length p'.cap) (p'.up σ0.sl.length) (jM p'.cap σ0) gs ls bs')),fun i _ σ=>qb P n keep [] p' false σ0 σ (I (i+1)),⟨σ0,.inl rfl,.inl ⟨rfl,rfl⟩⟩,?_,?_,?_⟩
  ·rintro i x τ hx (⟨rfl,rfl⟩ | ⟨hi,gs,ls,bs',g1,g2,g3,g4,rfl⟩)
   ·exact kY _ _ (by rw[hylp];exact(hxs x (List.mem_of_getElem? hx)).1) hfirst hx
   ·obtain ⟨i,rfl⟩:∃j,i=j+1:=⟨i-1,by omega⟩;exact jV g2 g3 g4 (kY _ _ (by rw[hylp];exact(hxs x (List.mem_of_getElem? hx)).1) (hround i) hx) g1
  ·rintro i τ bx (⟨rfl,rfl⟩ | ⟨hi,gs,ls,bs',g1,g2,g3,g4,hτ⟩) hk3
   ·obtain ⟨gs',ls',bs'',k1,k2,k3,k4,k5⟩:=qv (P:=P) (n:=n) (σ0:=τ) (σ:=⟨τ.sl,bx⟩) (entry:=false) (keep:=keep) (D:=[]) rfl (fun t _ _=>rfl) (fun he=>by cases he) hk3;exact⟨_,.inr k5,.inr ⟨by omega,gs',ls',bs'',k1,k2,k3,k4,rfl⟩⟩
   ·have hfr':=kr (P:=P) (n:=n) (keep:=keep) (σ:=σ0) (gs:=gs) (ls:=ls) (bs:=bs') hin;rw[<- hτ] at hfr';obtain ⟨gs',ls',bs'',k1,k2,k3,k4,k5⟩:=qv (P:=P) (n:=n) (σ:=⟨τ.sl,bx⟩) (entry:=false) (keep:=keep) (D:=[]) hfr'.1 (fun t h1 _=>hfr'.2 t (fun h=>h.elim (fun h=>by cases h) (fun h=>h h1))) (fun he=>by cases he) hk3;exact⟨_,.inr k5,.inr ⟨by omega,gs',ls',bs'',k1,k2,k3,k4,rfl⟩⟩
  ·rintro τ (⟨h0,rfl⟩ | ⟨hi,gs,ls,bs',g1,g2,g3,g4,rfl⟩)
   ·exact hnil (List.length_eq_zero_iff.1 h0)
   ·exact jV g2 g3 g4 hend g1
 split at h
 ·obtain ⟨⟨htr,hun⟩,h⟩:=h;rw[<- hun] at h htr;refine⟨fun x hx=>?_,fun i τ=>YG n ps F K (xs.drop i) τ,fun i _ τ=>YG n ps F K (xs.drop (i+1)) τ,⟨σ0,.inl rfl,h⟩,fun i x τ hx hd=>?_,fun i τ bx _ h=>⟨_,.inl rfl,h⟩,fun τ hd=>?_⟩
  ·have:=List.all_eq_true.1 htr x hx;simp only[Bool.and_eq_true,beq_iff_eq] at this;exact⟨this.2,this.1⟩
  ·obtain ⟨hlt,rfl⟩:=List.getElem?_eq_some_iff.1 hx;dsimp only at hd;rw[List.drop_eq_getElem_cons hlt] at hd;exact hd
  ·dsimp only at hd;rw[List.drop_of_length_le (Nat.le_refl _)] at hd;exact hd
 ·obtain ⟨hxs,I,hI0,hround,hend⟩:=h;generalize hp':p.res n σ0=p' at hI0 hround hend;have hin:xH [] p'=true:=by rw[<- hp'];exact hpat
  have hylp:p'.yl=p.yl:=by rw[<- hp'];rfl
  refine⟨fun x hx=>⟨by rw[<- uu _ _ (hxs x hx).1];exact hyl,(hxs x hx).2⟩,fun i τ=>∃gs ls bs',I i (xz gs ls bs')/\qZ (p'.gen.map (·.2)) gs=true/\ls.length=p'.app.length+p'.cap.length/\qZ (p'.bgen.map (·.2)) bs'=true /\
   τ=wL p'.cap (qP P n (keep++qI σ0.sl.length p'.cap) ([]++qI σ0.sl.length p'.cap) (p'.up σ0.sl.length) (jM p'.cap σ0) gs ls bs'),fun i _ σ=>qb P n keep [] p' false σ0 σ (I (i+1)),?_,?_,?_,?_⟩
  ·obtain ⟨gs,ls,bs',h1,h2,h3,h4,h5⟩:=qv (P:=P) (n:=n) rfl (fun _ _ _=>rfl) (fun _=>rfl) hI0;exact⟨_,.inr h5,gs,ls,bs',h1,h2,h3,h4,rfl⟩
  ·rintro i x τ hx ⟨gs,ls,bs',g1,g2,g3,g4,rfl⟩;exact jV g2 g3 g4 (kY _ _ (by rw[hylp];exact(hxs x (List.mem_of_getElem? hx)).1) (hround i) hx) g1
  ·rintro i τ bx ⟨gs,ls,bs',g1,g2,g3,g4,hτ⟩ hk3;have hfr':=kr (P:=P) (n:=n) (keep:=keep) (σ:=σ0) (gs:=gs) (ls:=ls) (bs:=bs') hin;rw[<- hτ] at hfr';obtain ⟨gs',ls',bs'',k1,k2,k3,k4,k5⟩:=qv (P:=P) (n:=n) (σ:=⟨τ.sl,bx⟩) (entry:=false) (keep:=keep) (D:=[]) hfr'.1 (fun t h1 _=>hfr'.2 t (fun h=>h.elim (fun h=>by cases h) (fun h=>h h1))) (fun he=>by cases he) hk3;exact⟨_,.inr k5,gs',ls',bs'',k1,k2,k3,k4,rfl⟩
  ·rintro τ ⟨gs,ls,bs',g1,g2,g3,g4,rfl⟩;exact jV g2 g3 g4 hend g1
section
variable {P:Program} {S:Specs} {ctl:Ctl}
open Classical in
theorem OW {assign body:Code} (hA:∀l,Qk P S ctl assign (some l)) (hB:∀l,Qk P S ctl body (some l)) (na:yB assign=true) (hq:∀g args O xs,S.seq g args O xs->xv P g args O xs)
  {ds:List Deferred} {n:Nat} {μ0:Lay} {ρ0:RO} {w0:World} {ρ:RO} {μ:Lay} {σ:St} {a:Act} {w:World} {cl:List Nat} {p:Pat} {g:Operand} {ps:Array Tmp} {K:Ex->St->Prop} {Q:Exit->Act->World->Prop}
  (hQ:∀e a w ds',At ds' n μ0 ρ0 w0 (K e) a w->Q (Ex.to e) a w) (hs:Sat ds n μ0 ρ0 w0 ρ μ σ a w)
  (h:S6 P S n ctl.keep cl p g ps.toList (fun τ K'=>qO P S ctl assign (τ.bx.length-τ.sl.length) τ (Qw P S ctl body (τ.bx.length-τ.sl.length) τ.bx K')) σ K):(Code.rangeFunc g ps assign body).wpIn (Fr none) 0 P Q a w:=by
 unfold S6 at h;split at h
 case h_2=>exact h.elim
 rename_i gf capz hev;generalize hcz:AV.zo capz=caps at h;generalize hBd:X3 σ capz=B at h;split at h
 case h_2=>exact h.elim
 rename_i bs hbs;split at h
 case isFalse=>exact h.elim
 rename_i hc;simp only[Bool.and_eq_true,List.all_eq_true,Bool.not_eq_true',decide_eq_true_eq] at hc;obtain ⟨⟨⟨⟨harr,hcapA⟩,hnd⟩,hyl⟩,hpat⟩:=hc;obtain ⟨xs,hseq,hway⟩:=h;have hSeq:=hq _ _ _ _ hseq;have hg:=hs.eval g;rw[hev] at hg;obtain ⟨vc,hge,hcl,hcr⟩:∃vc:Array Value,a.eval g=.func (.func gf) #[] vc/\caps.length=vc.size/\∀j,Rv ρ (some μ) (caps.getD j .undef) (vc.getD j Go.undef):=by
  generalize hu:a.eval g=u at hg;cases hg with
  |fn _ _ _ _ vf vc hf hc h1 h2 =>
   have:vf=#[]:=by simpa using hf.symm
   subst this;subst hcz;exact⟨vc,rfl,by rw[wh];exact hc,fun j=>by rw[uV];exact(h2 j).zZ⟩
 obtain ⟨hbl,hbi⟩:=u6 hbs;have hget:∀(i:Nat),i<B.length->∃(b:Nat) (x:Bx),B[i]? = some b/\bs[i]? = some x/\σ.bx.getD b none=some x/\b∈B:=by
  intro i hi;obtain ⟨x,h1,h2⟩:=hbi i B[i] (by simp[hi]);exact⟨B[i],x,by simp[hi],h1,h2,List.getElem_mem hi⟩
 have hBx:∀b,b∈B->∃(i:Nat) (x:Bx),B[i]? = some b/\bs[i]? = some x/\σ.bx.getD b none=some x:=by
  intro b hb;obtain ⟨i,hi,rfl⟩:=List.getElem_of_mem hb;obtain ⟨x,h1,h2⟩:=hbi i B[i] (by simp[hi]);exact⟨i,x,by simp[hi],h1,h2⟩
 have hdist:∀(i j b b':Nat),i≠j->B[i]? = some b->B[j]? = some b'->b≠b':=by
  rintro i j b b' hij hi hj rfl;obtain ⟨h1,h2⟩:=List.getElem?_eq_some_iff.1 hi;obtain ⟨h3,h4⟩:=List.getElem?_eq_some_iff.1 hj;rcases Nat.lt_or_gt_of_ne hij with hl | hl
  ·exact List.pairwise_iff_getElem.1 hnd i j h1 h3 hl (by rw[h2,h4])
  ·exact List.pairwise_iff_getElem.1 hnd j i h3 h1 hl (by rw[h2,h4])
 have blkLt:∀b x,σ.bx.getD b none=some x->(μ b).2≠0->(μ b).1<w.heap.size:=by
  intro b x hb hk;rcases (hs.box b x hb).blk with h0 | ⟨o,h,_⟩
  ·exact absurd h0 hk
  ·exact(Array.getElem?_eq_some_iff.1 h).1
 have roLt:∀k o,ρ k=some o->k<w.heap.size:=fun k o hk=>(Array.getElem?_eq_some_iff.1 (hs.ro k o hk)).1
 refine wpIn_rangeFunc (F:=Fr none) ?_;intro fn hfn;obtain ⟨rec,hrec⟩:∃rec:LoopState->Option Code->Loop,rec=fun st pe=>{ state:=st,pending:=pe,fn,tmps:=a.tmps,params:=ps,assign,body,defers:=w.heap.size }:=⟨_,rfl⟩
 obtain ⟨W1,hW1⟩:∃W1,(w.alloc (.deferred (some []))).alloc (.loop (rec .ready none))=W1:=⟨_,rfl⟩;obtain ⟨l,hl⟩:∃l,l=w.heap.size+1:=⟨_,rfl⟩;have hsz1:W1.heap.size=w.heap.size+2:=by rw[<- hW1];simp
 have hL1:W1.heap[l]? = some (.loop (rec .ready none)):=by
  rw[<- hW1,hl];have:=World.alloc_heap_new (w.alloc (.deferred (some []))) (.loop (rec .ready none));rwa[World.size_alloc] at this
 have hK1:W1.heap[w.heap.size]? = some (.deferred (some [])):=by
  rw[<- hW1];exact(Below.heap_alloc _ _ _ (by simp)).trans (World.alloc_heap_new w _)
 have hold:∀k,k<w.heap.size->W1.heap[k]? = w.heap[k]?:=by
  intro k hk;rw[<- hW1];exact(Below.heap_alloc _ _ _ (by simp;omega)).trans (Below.heap_alloc _ _ _ hk)
 have hos1:W1.os=w.os/\W1.tape=w.tape/\W1.output=w.output:=by rw[<- hW1];exact⟨rfl,rfl,rfl⟩
 let ρ1:RO:=fun k=>if k=w.heap.size then some (.deferred (some [])) else ρ k
 have hle1:ρ.le ρ1:=fun k o hk=>by
  show (if k=w.heap.size then _ else ρ k)=_;rw[if_neg (by have:=roLt k o hk;omega)];exact hk
 have hro1:∀k o,ρ1 k=some o->W1.heap[k]? = some o:=by
  intro k o hk;simp only[ρ1] at hk;split at hk
  ·rename_i he;rw[he,hK1];exact hk
  ·rw[hold k (roLt k o hk)];exact hs.ro k o hk
 have hs1:Sat ds n μ0 ρ0 w0 ρ1 μ σ a W1:=hs.zv hle1 hro1 (fun k o hk h0=>by
  simp only[ρ1] at hk;split at hk
  ·omega
  ·rw[h0] at hk;cases hk) hold (by omega) hos1.1 hos1.2.1 hos1.2.2
 let T0:Nat->Prop:=fun k=>∃b x,b∈B/\σ.bx.getD b none=some x/\(μ b).2≠0/\(μ b).1=k
 let T:Nat->Prop:=fun k=>T0 k\/k=l
 have hT0lt:∀k,T0 k->k<w.heap.size:=by rintro k ⟨b,x,_,hx,hk,rfl⟩;exact blkLt b x hx hk
 have hTlt:∀k,T k->k<W1.heap.size:=by
  rintro k (hk | hk)
  ·have:=hT0lt k hk;omega
  ·omega
 have hTρ:∀k,T k->ρ1 k=none:=by
  rintro k (⟨b,x,hb,hx,hk,rfl⟩ | hk)
  ·have h1:=hs.sep b _ (yi hx) hk;have h2:=blkLt b x hx hk;simp only[ρ1];rw[if_neg (by omega)];exact h1
  ·simp only[ρ1];rw[if_neg (by omega)];cases hr:ρ k with
   |none=>rfl
   |some o=>have:=roLt k o hr;omega
 have hlo:w0.heap.size<=l:=by have:=hs.size;omega
 have hTown:∀k,T k->Own n μ0 w0 k:=by
  rintro k (⟨b,x,hb,hx,hk,rfl⟩ | hk)
  ·by_cases hbn:n<=b
   ·exact hs.own b _ (yi hx) hk hbn
   ·have he:=hs.inc b (by omega);exact .inr ⟨b,by omega,by rw[<- he];exact hk,by rw[he]⟩
  ·exact .inl (hk▸hlo)
 obtain ⟨σ0,hσ0⟩:∃σ0:St,σ0=⟨(Qc g++cl).foldl (fun l t=>l.set t .undef) σ.sl,UC σ.bx fun b x=>if B.contains b then none else x⟩:=⟨_,rfl⟩;have hb0:∀b x,σ0.bx.getD b none=some x->b∉B/\σ.bx.getD b none=some x:=by
  intro b x hx;rw[hσ0] at hx;simp only at hx;rw[wk] at hx;split at hx
  ·split at hx
   ·cases hx
   ·rename_i hn;exact⟨by simpa using hn,hx⟩
  ·cases hx
 have hs2:Sat ds n μ0 ρ0 w0 ρ1 μ σ0 a W1:=hs1.sub (by rw[hσ0];exact Yi _) (fun t=>by rw[hσ0];exact SP _ t) (fun b x hx=>(hb0 b x hx).2);have hTb0:∀b x,σ0.bx.getD b none=some x->(μ b).2≠0->¬ T (μ b).1:=by
  rintro b x hx hk (⟨b',x',hb',hx',hk',he⟩ | he)
  ·obtain ⟨h1,h2⟩:=hb0 b x hx;exact hs.inj b b' _ _ (yi h2) (yi hx') (by rintro rfl;exact h1 hb') hk hk' he.symm
  ·have:=blkLt b x (hb0 b x hx).2 hk;omega
 obtain ⟨a',ha'⟩:∃a':Act,a'={ a with defers:={ target:=.collected w.heap.size,args:=#[] }::a.defers }:=⟨_,rfl⟩;have hs3:Sat ({ target:=.collected w.heap.size,args:=#[] }::ds) n μ0 ρ0 w0 ρ1 μ σ0 a' W1:=by
  rw[ha'];refine hs2.mark (by simp only[ρ1,if_true]) ?_ hs.size ?_
  ·cases h0:ρ0 w.heap.size with
   |none=>rfl
   |some o=>have:=roLt _ o (hs.le _ _ h0);omega
  ·intro d hd he;obtain ⟨Ds,e1,e2,e3⟩:=hs.defs;rw[e1] at hd;obtain ⟨D',hD',rfl⟩:=List.mem_map.1 hd;simp only[Deferred.mk.injEq,Target.collected.injEq,and_true] at he;have:=roLt _ _ (e3 D' hD').1;omega
 generalize { target:=Target.collected w.heap.size,args:=#[] }::ds=ds' at hs3;rw[<- hσ0] at hway;generalize hF:(fun τ K'=>qO P S ctl assign (τ.bx.length-τ.sl.length) τ (Qw P S ctl body (τ.bx.length-τ.sl.length) τ.bx K'))=F at hway;obtain ⟨hxs,HD,N,⟨τ0,hτ0,hH0⟩,hround,hnext,hend⟩:=Lu hyl hpat hway;have hround:∀i x τ,xs[i]? = some x->HD i τ->(if yp τ && decide (n<=τ.bx.length) then qO P S ctl assign ((τ.bx++List.replicate τ.sl.length none).length-(jP τ.sl ps.toList x).length) ⟨jP τ.sl ps.toList x,τ.bx++List.replicate τ.sl.length none⟩ (Qw P S ctl body ((τ.bx++List.replicate τ.sl.length none).length-(jP τ.sl ps.toList x).length) (τ.bx++List.replicate τ.sl.length none) fun e σ1=>if qA n τ.bx σ1.bx then HL N K i τ e σ1 else False) else False):=by
  subst hF;exact hround
 let Hd:(Nat->Prop)->RO->Lay->St->World->Prop:=fun T ρ' μ' τ W=>(∀k,T k\/k=l->ρ' k=none)/\(∀b x,τ.bx.getD b none=some x->(μ' b).2≠0->¬ (T (μ' b).1\/(μ' b).1=l))/\∀k,T k->k<W.heap.size/\Own n μ0 w0 k/\k≠l
 let J:ItJ:=fun ρI T i W=>W1.heap.size<=W.heap.size/\∃ρ' μ' τ,HD i τ/\Sat ds' n μ0 ρ0 w0 ρ' μ' τ a' W/\ρI.le ρ'/\Hd T ρ' μ' τ W/\W.heap[l]? = some (.loop (rec .ready none))
 let Jx:ItX:=fun ρI T W=>W1.heap.size<=W.heap.size/\∃ex c ρ' μ' τ,Ex.code ex=some c/\K ex τ/\Sat ds' n μ0 ρ0 w0 ρ' μ' τ a' W/\ρI.le ρ'/\Hd T ρ' μ' τ W/\W.heap[l]? = some (.loop (rec .done (some c)))
 have hstepS:∀ {ρI:RO} {T:Nat->Prop} {W:World} {ρI':RO} {T':Nat->Prop} {W':World} {ρ':RO} {μ':Lay} {τ:St},Sat ds' n μ0 ρ0 w0 ρ' μ' τ a' W->ρI.le ρ'->Hd T ρ' μ' τ W->Xy ρI T W ρI' T' W'->l<W.heap.size ->
   ∃ρ'',Sat ds' n μ0 ρ0 w0 ρ'' μ' τ a' W'/\ρI'.le ρ''/\Hd T' ρ'' μ' τ W'/\W'.heap[l]? = W.heap[l]?:=by
  rintro ρI T W ρI' T' W' ρ' μ' τ hsat hle ⟨d1,d2,d3⟩ hst hlW;have hlT:¬ T l:=fun h=>(d3 l h).2.2 rfl
  have hl':=hst.frame l hlW hlT;have hsz:=hsat.size;have hlt':∀k o,ρ' k=some o->k<W.heap.size:=fun k o h=>(Array.getElem?_eq_some_iff.1 (hsat.ro k o h)).1
  have h1:=hsat.turn (T:=T) hst.size hst.frame (fun k hk=>d1 k (.inl hk)) (fun b x hx hk ht=>d2 b x hx hk (.inl ht)) (fun k hk=>(d3 k hk).2.1) hst.os hst.tape hst.output;have hblk:∀b cs,τ.box b=some cs->(μ' b).2≠0->(μ' b).1<W.heap.size:=by
   intro b cs hb hk;obtain ⟨y,hy,rfl⟩:=yK hb;rcases (hsat.box b y hy).blk with h0 | ⟨o,h,_⟩
   ·exact absurd h0 hk
   ·exact(Array.getElem?_eq_some_iff.1 h).1
  have hI':∀k,ρ' k=none->∀o,ρI' k=some o->T k\/W.heap.size<=k:=fun k hn o ho=>by
   cases hk:ρI k with
   |none=>exact hst.new k o ho hk
   |some o'=>rw[hle k o' hk] at hn;cases hn
  let ρ'':RO:=fun k=>match ρ' k with
   |some o=>some o
   |none=>ρI' k
  have e1:∀k o,ρ' k=some o->ρ'' k=some o:=fun k o h=>by simp only[ρ'',h]
  have e2:∀k,ρ' k=none->ρ'' k=ρI' k:=fun k h=>by simp only[ρ'',h]
  have hro:∀k o,ρ'' k=some o->W'.heap[k]? = some o:=fun k o h=>by
   cases hk:ρ' k with
   |some o'=>rw[e1 k o' hk] at h;cases h;exact h1.ro k o hk
   |none=>rw[e2 k hk] at h;exact hst.ro k o h
  have hnone:∀k,ρ' k=none->k<W.heap.size->¬ T k->ρ'' k=none:=fun k hk hlt ht=>by
   rw[e2 k hk];cases ho:ρI' k with
   |none=>rfl
   |some o =>
    rcases hI' k hk o ho with h | h
    ·exact absurd h ht
    ·omega
  refine⟨ρ'',h1.ya (ρ':=ρ'') e1 hro (fun b cs hb hk=>?_) (fun k o h hk=>?_),fun k o h=>?_,⟨fun k hk=>?_,fun b x hx hk hT=>?_,fun k hk=>?_⟩,hl'⟩
  ·obtain ⟨y,hy,rfl⟩:=yK hb;have hn:=hsat.sep b _ hb hk;exact hnone _ hn (hblk b _ hb hk) fun ht=>d2 b y hy hk (.inl ht)
  ·rw[e2 k hk] at h;rcases hI' k hk o h with ht | ht
   ·exact(d3 k ht).2.1
   ·exact .inl (by omega)
  ·cases hk:ρ' k with
   |none=>rw[e2 k hk];exact h
   |some o' =>
    rw[e1 k o' hk];have a1:=hst.ro k o h;have a2:=h1.ro k o' hk;rw[a1] at a2;exact a2.symm
  ·rcases hk with hk | rfl
   ·have hn:=hst.sep k hk;cases hr:ρ' k with
    |none=>rw[e2 k hr];exact hn
    |some o =>
     exfalso;rcases hst.own k hk with ht | ht
     ·rw[d1 k (.inl ht)] at hr;cases hr
     ·have:=hlt' k o hr;omega
   ·exact hnone k (d1 k (.inr rfl)) hlW hlT
  ·rcases hT with hT | hT
   ·have hb:=hblk b _ (yi hx) hk;rcases hst.own _ hT with ht | ht
    ·exact d2 b x hx hk (.inl ht)
    ·omega
   ·exact d2 b x hx hk (.inr hT)
  ·refine⟨hst.lt k hk,?_,?_⟩
   ·rcases hst.own k hk with ht | ht
    ·exact(d3 k ht).2.1
    ·exact .inl (by omega)
   ·rintro rfl;rcases hst.own k hk with ht | ht
    ·exact hlT ht
    ·omega
 let μB:Lay:=fun i=>match B[i]? with | some b=>μ b | none=>(0,0)
 have hμB:∀(i b:Nat),B[i]? = some b->μB i=μ b:=fun i b hi=>by simp only[μB,hi]
 have hren:∀(b i:Nat),idx b B=some i->μB i=μ b:=fun b i hi=>hμB i b (xc hi)
 have hOl:(bs.map fun x=>AV.zb (AV.zh (idx · B) (AV.zo x.cs))).length=B.length:=by simp[hbl]
 have hT0B:∀k,T0 k->∃i,i<B.length/\(μB i).2≠0/\k=(μB i).1:=by
  rintro k ⟨b,x,hb,hx,hk,rfl⟩;obtain ⟨i,_,hi,_,_⟩:=hBx b hb;refine⟨i,(List.getElem?_eq_some_iff.1 hi).1,?_,?_⟩<;>rw[hμB i b hi];exact hk
 have hBT0:∀i,i<B.length->(μB i).2≠0->T0 (μB i).1:=by
  intro i hi hk;obtain ⟨b,x,h1,_,h3,h4⟩:=hget i hi;rw[hμB i b h1] at hk ⊢;exact⟨b,x,h4,h3,hk,rfl⟩
 have hlT0:¬ T0 l:=fun h=>by have:=hT0lt l h;omega
 have hBk:∀k,jz μB (bs.map fun x=>AV.zb (AV.zh (idx · B) (AV.zo x.cs))).length k->T0 k:=by
  rintro k ⟨b,hb,hk,rfl⟩;rw[hOl] at hb;exact hBT0 b hb hk
 have hrun:=hSeq.run ρ1 μB W1 vc l J Jx (hs1.gl.mono hs1.le) hro1 ?hbox ?hinj ?hsep ?hargs ?hJ ?hJx ?hround ?hJ0
 case hbox =>
  intro i cs hi;simp only[List.getElem?_map] at hi;obtain ⟨x,hx,rfl⟩:=Option.map_eq_some_iff.1 hi;have hil:i<B.length:=by have:=(List.getElem?_eq_some_iff.1 hx).1;omega
  obtain ⟨b,y,h1,h2,h3,h4⟩:=hget i hil;rw[hx] at h2;cases h2;obtain ⟨k1,k2⟩:=hs1.box b x h3;have hm:=hμB i b h1;refine⟨by rw[hm];simpa[yu,yQ,wh] using k1,?_⟩;rw[hm];rcases k2 with k2 | ⟨o,k3,k5⟩
  ·exact .inl k2
  ·refine .inr ⟨o,k3,k5.imp (by rw[vk,vl,KX]) (fun j cv h6=>?_) (hl:=by rw[qD,(harr x (List.mem_of_getElem? hx)).1];rfl)⟩;rw[yP,qt,uV];unfold lev at h6;rw[if_neg (by have:=(harr x (List.mem_of_getElem? hx)).1;simp[this])] at h6;exact(h6.zZ.zj hren).norm
 case hinj =>
  intro i j hi hj hij hk hk';rw[hOl] at hi hj;obtain ⟨b,x,h1,_,h3,_⟩:=hget i hi;obtain ⟨b',x',h1',_,h3',_⟩:=hget j hj;rw[hμB i b h1,hμB j b' h1'] at *;exact hs.inj b b' _ _ (yi h3) (yi h3') (hdist i j b b' hij h1 h1') hk hk'
 case hsep =>
  intro i hi hk;rw[hOl] at hi;exact hTρ _ (.inl (hBT0 i hi hk))
 case hargs =>
  refine⟨by rw[yu,yQ];exact hcl,fun j=>?_⟩;rw[yP,qt];exact(((hcr j).mono hle1).zj hren).norm
 case hJ =>
  rintro ρI T i W ρI' T' W' ⟨hsz,ρ',μ',τ,h1,h2,h3,h4,h6⟩ hst;obtain ⟨ρ'',g1,g2,g3,g4⟩:=hstepS h2 h3 h4 hst (Array.getElem?_eq_some_iff.1 h6).1;exact⟨Nat.le_trans hsz hst.size,ρ'',μ',τ,h1,g1,g2,g3,g4.trans h6⟩
 case hJx =>
  rintro ρI T W ρI' T' W' ⟨hsz,ex,c,ρ',μ',τ,h0,h1,h2,h3,h4,h6⟩ hst;obtain ⟨ρ'',g1,g2,g3,g4⟩:=hstepS h2 h3 h4 hst (Array.getElem?_eq_some_iff.1 h6).1;exact⟨Nat.le_trans hsz hst.size,ex,c,ρ'',μ',τ,h0,h1,g1,g2,g3,g4.trans h6⟩
 case hJ0 =>
  obtain ⟨μ',h6,h7⟩:∃μ',Sat ds' n μ0 ρ0 w0 ρ1 μ' τ0 a' W1/\∀b x,τ0.bx.getD b none=some x->(μ' b).2≠0->¬ T (μ' b).1:=by
   rcases hτ0 with rfl | h5
   ·exact⟨μ,hs3,hTb0⟩
   ·exact hs3.zL h5 hTb0
  refine⟨Nat.le_refl _,ρ1,μ',_,hH0,h6,RO.le_refl _,⟨fun k hk=>hTρ k (hk.imp (hBk k) id),fun b x hx hk ht=>h7 b x hx hk (ht.imp (hBk _) id),fun k hk=>⟨hTlt k (.inl (hBk k hk)),hTown k (.inl (hBk k hk)),?_⟩⟩,hL1⟩;rintro rfl;exact hlT0 (hBk _ hk)
 case hround =>
  rintro ρI TI i x ys W hx ⟨hsz,ρ',μ',τ,hhd,hsat,hle',⟨hTρ',hTb',hTI⟩,hlW⟩ hys _;obtain ⟨hxl,htree⟩:=hxs x (List.mem_of_getElem? hx);have hk:=hround i x τ hx hhd;split at hk
  case isFalse=>exact hk.elim
  rename_i hlv;simp only[Bool.and_eq_true,decide_eq_true_eq] at hlv;obtain ⟨hlv1,hnle⟩:=hlv;have hlv2:=hlv1;simp only[yp,Bool.and_eq_true,List.all_eq_true] at hlv2;have hysl:ys.size=ps.size:=by rw[<- hys.1,hxl];simp
  have htm:a'.tmps=a.tmps:=by rw[ha']
  have hyr:=run_yield (P:=P) (args:=ys) hlW (by rw[hrec];exact hysl);rw[hrec] at hyr;refine⟨fn,_,assign,body,hyr,roundIn_of_wpIn (F:=Fence.wide) trivial ?_⟩;have hz1:τ.sl.length=a.tmps.size:=by rw[hsat.sz,htm]
  obtain ⟨v1,v2⟩:=Jz (ρ:=ρ') (μ:=some μ') ps.toList x ys.toList τ.sl a.tmps hz1 (by rw[hys.1];simp) (fun j=>by
   have:=((hys.2 j).any (some μ')).mono hle';rw[<- ja] at this;exact this) (fun t=>by have:=hsat.sl t;rw[htm] at this;exact this) hxl.symm
  have hfold:(ps.zip ys).foldl (fun tmps (t,a)=>tmps.setIfInBounds t a) a.tmps=(ps.toList.zip ys.toList).foldl (fun t q=>t.setIfInBounds q.1 q.2) a.tmps:=by
   rw[<- Array.foldl_toList,Array.toList_zip]
  rw[<- hfold] at v1 v2;have hrd:=OZ (hA l) (hB l) na hsat hlv1 hnle hlW (by rw[hrec]) hlo (T:=fun k=>TI k\/k=l) (.inr rfl) (fun k hk=>hk.elim (fun h=>(hTI k h).1) (fun h=>by rw[h];exact(Array.getElem?_eq_some_iff.1 hlW).1)) hTρ' hTb' (sl:=jP τ.sl ps.toList x) (by rw[X7,v1,hz1]) v2 (fun b hb=>hlv2.1 b (O4 _ _ _ hb htree)) (by
   have:=hk;simp only[List.length_append,List.length_replicate,X7,Nat.add_sub_cancel] at this;rw[X7];exact this)
  refine wpIn_mono hrd ?_;intro e a1 w1 he;cases e with
  |normal =>
   obtain ⟨w2,hb,hbody⟩:=he;refine⟨w2,hb,wpIn_mono hbody ?_⟩;rintro e a3 w3 ⟨ex,ρ3,μ3,σ3,rfl,hk3,hleft⟩;have hloop:=hleft.loop;rw[hrec] at hloop;have hW3:l<w3.heap.size:=(Array.getElem?_eq_some_iff.1 hloop).1;have keep:∀o,WK ρI TI W (w3.putObj l o):=fun o =>
    {size:=by rw[World.putObj_size];exact hleft.size
     ro:=fun k o' hk=>by
      have hne:k≠l:=by
       rintro rfl;have:=hle' k o' hk;rw[hTρ' k (.inr rfl)] at this;cases this
      rw[World.putObj_heap_other hne];exact hleft.sat.ro k o' (hleft.le k o' (hle' k o' hk))
     box:=fun k hk=>by
      have hne:k≠l:=(hTI k hk).2.2;rw[World.putObj_heap_other hne];exact hleft.same _ (.inl hk) hne
     os:=hleft.os
     tape:=hleft.tape
     output:=hleft.output }
   have turn:∀o {σ4:St} {μ4:Lay},Sat ds' n μ0 ρ0 w0 ρ3 μ4 σ4 a' w3->(∀b x,σ4.bx.getD b none=some x->(μ4 b).2≠0->¬ (TI (μ4 b).1\/(μ4 b).1=l))->Sat ds' n μ0 ρ0 w0 ρ3 μ4 σ4 a' (w3.putObj l o):=fun o _ _ h1 h2 =>
    h1.turn (T:=(·=l)) (by rw[World.putObj_size];exact Nat.le_refl _) (fun k _ hk=>World.putObj_heap_other hk) (fun k hk=>hk▸hleft.ro l (.inr rfl)) (fun b x hx hk he=>h2 b x hx hk (.inr he)) (fun k hk=>hk▸hTown l (.inr rfl)) rfl rfl rfl
   have hd:∀(o:Obj) {σ4:St} {μ4:Lay},(∀b x,σ4.bx.getD b none=some x->(μ4 b).2≠0->¬ (TI (μ4 b).1\/(μ4 b).1=l))->Hd TI ρ3 μ4 σ4 (w3.putObj l o):=fun o _ _ h =>
    ⟨hleft.ro,h,fun k hk=>⟨by have:=(hTI k hk).1;have:=hleft.size;rw[World.putObj_size];omega,(hTI k hk).2⟩⟩
   have hsz3:∀o,W1.heap.size<=(w3.putObj l o).heap.size:=fun o=>by rw[World.putObj_size];exact Nat.le_trans hsz hleft.size
   cases ex with
   |normal =>
    have her:=run_endRound (P:=P) none hloop;refine⟨_,_,her,keep _,.inl ⟨rfl,hsz3 _,?_⟩⟩;obtain ⟨τ',hτ',hH'⟩:=hnext i τ σ3.bx hhd hk3;obtain ⟨μ4,k6,k7⟩:∃μ4,Sat ds' n μ0 ρ0 w0 ρ3 μ4 τ' a' w3/\∀b x,τ'.bx.getD b none=some x->(μ4 b).2≠0->¬ (TI (μ4 b).1\/(μ4 b).1=l):=by
     rcases hτ' with rfl | k5
     ·exact⟨μ3,hleft.sat,hleft.bx⟩
     ·exact hleft.sat.zL (T:=fun k=>TI k\/k=l) k5 hleft.bx
    refine⟨ρ3,μ4,_,hH',turn _ k6 k7,hle'.trans hleft.le,hd _ k7,?_⟩;rw[World.putObj_heap_same hW3,hrec];rfl
   |exit id =>
    have her:=run_endRound (P:=P) (some (.exit id)) hloop;refine⟨_,_,her,keep _,.inr ⟨rfl,hsz3 _,.exit id,_,ρ3,μ3,_,rfl,hk3,turn _ hleft.sat hleft.bx,hle'.trans hleft.le,hd _ hleft.bx,?_⟩⟩;rw[World.putObj_heap_same hW3,hrec];rfl
   |ret =>
    have her:=run_endRound (P:=P) (some .ret) hloop;refine⟨_,_,her,keep _,.inr ⟨rfl,hsz3 _,.ret,_,ρ3,μ3,_,rfl,hk3,turn _ hleft.sat hleft.bx,hle'.trans hleft.le,hd _ hleft.bx,?_⟩⟩;rw[World.putObj_heap_same hW3,hrec];rfl
  |exit i=>exact he.elim
  |ret=>exact he.elim
  |goto i=>exact he.elim
  |panic i=>exact he.elim
  |outgrown=>exact he.elim
 have henter:∀args w,(callFunc gf args).run P w=.ok (.enter gf args) w:=hSeq.enter;refine⟨l,[{ target:=.collected w.heap.size,args:=#[] }],W1,{ target:=.fn (.func gf) vc,args:=#[.func (.yield l) #[] #[]] },W1,gf,
  #[.func (.yield l) #[] #[]]++vc,W1,?_,?_,fun _ _=>trivial,?_,fun h=>(by cases h),?_⟩
 ·rw[<- hW1,hrec,hl];exact run_enterLoop_outer _ _ _ _ _
 ·simp only[resolve,hge];simp[go_sem]
 ·simp[invoke,go_sem,henter]
 ·refine CallsIn.mono (F:=Fr none) (callsIn_wide.2 hrun) ?_;have hdef:a'={ a with defers:=[{ target:=Target.collected w.heap.size,args:=#[] }]++a.defers }:=by rw[ha'];rfl
  rintro e W2 ⟨⟨v,rfl⟩,ρE,TE,(⟨hsz,ρ',μ',τ,hhd,h2,_,⟨h4,h5,_⟩,h6⟩ | ⟨hsz,ex,c,ρ',μ',τ,h0,h1,h2,_,⟨h4,h5,_⟩,h6⟩)⟩
  ·refine⟨none,W2.putObj l (.loop { rec .ready none with state:=.exhausted }),by have:=run_endLoop (P:=P) h6 (by rw[hrec];simp);rw[hrec] at this ⊢;exact this,?_⟩;rw[<- hdef];exact hQ .normal a' _ ds' ⟨ρ',μ',_,h2.turn (T:=(·=l)) (by rw[World.putObj_size];exact Nat.le_refl _) (fun k _ hk=>World.putObj_heap_other hk) (fun k hk=>hk▸h4 l (.inr rfl)) (fun b x hx hk he=>h5 b x hx hk (.inr he)) (fun k hk=>hk▸hTown l (.inr rfl)) rfl rfl rfl,hend _ hhd⟩
  ·refine⟨some c,W2.putObj l (.loop { rec .done (some c) with state:=.exhausted }),by have:=run_endLoop (P:=P) h6 (by rw[hrec];simp);rw[hrec] at this ⊢;exact this,?_⟩;rw[<- hdef];have hat:At ds' n μ0 ρ0 w0 (K ex) a' (W2.putObj l (.loop { rec .done (some c) with state:=.exhausted })):=⟨ρ',μ',τ,h2.turn (T:=(·=l)) (by rw[World.putObj_size];exact Nat.le_refl _) (fun k _ hk=>World.putObj_heap_other hk) (fun k hk=>hk▸h4 l (.inr rfl)) (fun b x hx hk he=>h5 b x hx hk (.inr he)) (fun k hk=>hk▸hTown l (.inr rfl)) rfl rfl rfl,h1⟩;cases ex with
   |normal=>cases h0
   |exit id=>cases h0;exact wpIn_exit (hQ (.exit id) a' _ ds' hat)
   |ret=>cases h0;exact wpIn_ret (hQ .ret a' _ ds' hat)
end
end Go.Proofs.YtkojpnkknehhmaaGreatDoor

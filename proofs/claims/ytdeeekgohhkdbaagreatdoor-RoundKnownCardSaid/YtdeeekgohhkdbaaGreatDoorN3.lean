/- States taken up anew at a call that is followed. -/
import Derived.Test.YtdeeekgohhkdbaaGreatDoorL3
import Derived.RangeFuncKeeps
namespace Go.Proofs.YtdeeekgohhkdbaaGreatDoor
open Go.RowKit
section
variable {ds:List Deferred} {n:Nat} {E0:Lay} {ρ0:RO} {w0:World} {ρ:RO} {E:Lay} {Z:St} {a:Act} {w:World}
def jy (Z:St) (E:Lay):Lay:=fun b=>if qq Z.bx b then E b else (0,0)
theorem qU {bx:List (Option Bx)} {b:Nat} (h:qq bx b=true):∃x,bx.getD b none=some x:=Option.isSome_iff_exists.1 h
theorem wu {bx:List (Option Bx)} {b:Nat} {x:Bx} (h:bx.getD b none=some x):qq bx b=true:=by unfold qq;rw[h];rfl
theorem jx {Z:St} {b:Nat} {cs:List AV} (h:Z.box b=some cs):qq Z.bx b=true:=by
 obtain ⟨x,hx,-⟩:=yT h;exact wu hx
theorem XA {bx:List (Option Bx)} {b:Nat} (h:qq bx b=true):b<bx.length:=by
 rcases Nat.lt_or_ge b bx.length with hb | hb
 ·exact hb
 ·unfold qq at h;simp[List.getD,List.getElem?_eq_none hb] at h
theorem X7 {bx:List (Option Bx)} {k b:Nat}:(bx++List.replicate k none).getD b none=bx.getD b none:=by
 simp only[List.getD,List.getElem?_append];split
 ·rfl
 ·rename_i h;rw[List.getElem?_eq_none (by omega:bx.length<=b)];cases hg:(List.replicate k (none:Option Bx))[b-bx.length]? with
  |none=>rfl
  |some y=>rw[List.eq_of_mem_replicate (List.mem_of_getElem? hg)];rfl
theorem JG {sl:List AV} {bx:List (Option Bx)} {k b:Nat}:({ sl,bx:=bx++List.replicate k none }:St).box b=({ sl,bx }:St).box b:=by
 unfold St.box;rw[X7]
theorem Sat.zF (hs:Sat ds n E0 ρ0 w0 ρ E Z a w) (hl:yE Z=true) {sl:List AV} {tm:Array Value} (hz:sl.length=tm.size) (hv:∀t,Rv ρ (some E) (sl.getD t .undef) (tm.getD t Go.undef))
  (hlv:∀b∈AV.zd sl,qq Z.bx b=true) (k:Nat):Sat [] Z.bx.length (jy Z E) ρ w ρ (jy Z E) ⟨sl,Z.bx++List.replicate k none⟩ ⟨tm,[]⟩ w:=by
 simp only[yE,Bool.and_eq_true,List.all_eq_true] at hl;have hμ:∀b,qq Z.bx b=true->jy Z E b=E b:=fun b hb=>by simp only[jy,hb,if_true]
 have hbx:∀b cs,({ sl,bx:=Z.bx++List.replicate k none }:St).box b=some cs->Z.box b=some cs:=fun b cs h=>by rw[JG] at h;exact h
 refine { gl:=hs.gl.mono hs.le,dfe:=rfl,defs:=.nil _ _ _,sz:=hz,sl:=fun t=>(hv t).lay fun b hb=>hμ b (hlv b (yY hb)),box:=fun b x hx=>?_,inj:=fun b b' cs cs' h h' hne hk hk'=>?_,sep:=fun b cs h hk=>?_,own:=fun b cs h hk hn=>?_,inc:=fun _ _=>rfl,ro:=hs.ro,le:=RO.le_refl ρ,new:=fun k o h h0=>(by rw[h0] at h;cases h),frame:=fun _ _ _=>rfl,size:=Nat.le_refl _,os:=rfl,tape:=rfl,output:=rfl }
 ·simp only[X7] at hx;have hb:=wu hx;obtain ⟨h1,h2⟩:=hs.box b x hx;refine⟨by rw[hμ b hb];exact h1,?_⟩;rw[hμ b hb];rcases h2 with h2 | ⟨o,h3,h5⟩
  ·exact .inl h2
  ·refine .inr ⟨o,h3,h5.imp rfl fun j cv h6=>?_⟩;unfold lev at h6 ⊢;split
   ·rename_i ha;rw[if_pos ha] at h6;exact h6
   ·rename_i ha;rw[if_neg ha] at h6;refine h6.lay fun b' hb'=>hμ b' ?_
    have hm:some x∈Z.bx:=by
     simp only[List.getD] at hx;cases hg:Z.bx[b]? with
     |none=>rw[hg] at hx;cases hx
     |some y=>rw[hg] at hx;simp only[Option.getD_some] at hx;subst hx;exact List.mem_of_getElem? hg
    have:=hl.2 _ hm;simp only[List.all_eq_true] at this;exact this b' (by unfold Bx.refs;rw[if_neg ha];exact yY hb')
 ·have h1:=hbx b cs h;have h2:=hbx b' cs' h';rw[hμ b (jx h1),hμ b' (jx h2)] at *;exact hs.inj b b' cs cs' h1 h2 hne hk hk'
 ·have h1:=hbx b cs h;rw[hμ b (jx h1)] at *;exact hs.sep b cs h1 hk
 ·have:=XA (jx (hbx b cs h));omega
def Sm (n:Nat) (E E1:Lay):Lay:=fun b=>if b<n then E b else E1 b
theorem xS {E1:Lay} {Z1:St} {ds1:List Deferred} {ρ1:RO} {a1:Act} {w1:World} (hi:Sat ds1 Z.bx.length (jy Z E) ρ w ρ1 E1 Z1 a1 w1) (hb:qL n Z.bx Z1.bx=true) {b:Nat} (h:qq Z1.bx b=true) :
  Sm n E E1 b=E1 b:=by
 simp only[qL,Bool.and_eq_true,List.all_eq_true,List.mem_range] at hb;show (if b<n then E b else E1 b)=_;split
 ·rename_i hn;have h1:=hb.1 b hn;rw[h] at h1;have h1:qq Z.bx b=true:=by simpa using h1
  rw[hi.inc b (XA h1)];simp only[jy,h1,if_true]
 ·rfl
theorem Sat.compose (hs:Sat ds n E0 ρ0 w0 ρ E Z a w) (hl:yE Z=true) {ρ1:RO} {E1:Lay} {Z1:St} {a1:Act} {w1:World} {ds1:List Deferred} (hi:Sat ds1 Z.bx.length (jy Z E) ρ w ρ1 E1 Z1 a1 w1)
  (hb:qL n Z.bx Z1.bx=true):Sat ds n E0 ρ0 w0 ρ1 (Sm n E E1) ⟨Z.sl,Z1.bx⟩ a w1:=by
 simp only[yE,Bool.and_eq_true,List.all_eq_true] at hl;have lay:=fun {b:Nat} (h:qq Z1.bx b=true)=>xS hi hb h
 have hb2:=hb;simp only[qL,Bool.and_eq_true,List.all_eq_true,List.mem_range] at hb2;have hbox:∀b cs,(⟨Z.sl,Z1.bx⟩:St).box b=some cs->Z1.box b=some cs:=fun b cs h=>h
 have hμ:∀b,qq Z.bx b=true->Sm n E E1 b=E b:=fun b hb=>by
  show (if b<n then E b else E1 b)=_;split
  ·rfl
  ·rw[hi.inc b (XA hb)];simp only[jy,hb,if_true]
 have lift:∀k,Own Z.bx.length (jy Z E) w k->Own n E0 w0 k:=by
  rintro k (h | ⟨c,hc,h0,rfl⟩)
  ·have:=hs.size;exact .inl (by omega)
  ·unfold jy at h0 ⊢;split at h0
   ·rename_i hlv;rw[if_pos hlv];obtain ⟨x,hx⟩:=qU hlv;exact hs.zZ (yu hx) h0
   ·exact absurd rfl h0
 refine { gl:=hs.gl,dfe:=hs.dfe,defs:=hs.defs.mono hi.le,sz:=hs.sz,sl:=fun t=>((hs.sl t).lay fun b hb=>hμ b (hl.1 b (yY hb))).mono hi.le,box:=fun b x hx=>?_,inj:=fun b b' cs cs' h h' hne hk hk'=>?_,sep:=fun b cs h hk=>?_,own:=fun b cs h hk hb=>?_,inc:=fun b hb=>?_,ro:=hi.ro,le:=hs.le.trans hi.le,new:=fun k o h h0=>?_,frame:=fun k hk hb=>?_,size:=Nat.le_trans hs.size hi.size,os:=hi.os.trans hs.os,tape:=hi.tape.trans hs.tape,output:=hi.output.trans hs.output }
 ·obtain ⟨h1,h2⟩:=hi.box b x hx;have hb':=lay (wu hx);refine⟨by rw[hb'];exact h1,?_⟩;rw[hb'];rcases h2 with h2 | ⟨o,h3,h5⟩
  ·exact .inl h2
  ·refine .inr ⟨o,h3,h5.imp rfl fun j cv h6=>?_⟩;unfold lev at h6 ⊢;split
   ·rename_i ha;rw[if_pos ha] at h6;exact h6
   ·rename_i ha;rw[if_neg ha] at h6;refine h6.lay fun b' hb'=>lay ?_
    have hm:some x∈Z1.bx:=by
     simp only[List.getD] at hx;cases hg:Z1.bx[b]? with
     |none=>rw[hg] at hx;cases hx
     |some y=>rw[hg] at hx;simp only[Option.getD_some] at hx;subst hx;exact List.mem_of_getElem? hg
    have:=hb2.2 _ hm;simp only[List.all_eq_true] at this;exact this b' (by unfold Bx.refs;rw[if_neg ha];exact yY hb')
 ·have h1:=lay (jx (hbox b cs h));have h2:=lay (jx (hbox b' cs' h'));rw[h1] at hk ⊢;rw[h2] at hk' ⊢;exact hi.inj b b' cs cs' h h' hne hk hk'
 ·have h1:=lay (jx (hbox b cs h));rw[h1] at hk ⊢;exact hi.sep b cs h hk
 ·have h1:=lay (jx (hbox b cs h));rw[h1] at hk ⊢;rcases Nat.lt_or_ge b Z.bx.length with hlt | hge
  ·rw[hi.inc b hlt] at hk ⊢;unfold jy at hk ⊢;split at hk
   ·rename_i hb';rw[if_pos hb'];obtain ⟨x,hx⟩:=qU hb';exact hs.own b _ (yu hx) hk hb
   ·exact absurd rfl hk
  ·exact lift _ (hi.own b cs h hk hge)
 ·show (if b<n then E b else E1 b)=_;rw[if_pos hb,hs.inc b hb]
 ·cases hk:ρ k with
  |some o'=>exact hs.new k o' hk h0
  |none=>exact lift _ (hi.new k o h hk)
 ·rw[hi.frame k (by have:=hs.size;omega) fun b hb' hk' he=>?_]
  ·exact hs.frame k hk hb
  ·unfold jy at hk' he;split at hk'
   ·rename_i hlv;rw[if_pos hlv] at he;rcases Nat.lt_or_ge b n with hbn | hbn
    ·rw[hs.inc b hbn] at hk' he;exact hb b hbn hk' he
    ·obtain ⟨x,hx⟩:=qU hlv;rcases hs.own b _ (yu hx) hk' hbn with h' | ⟨c,hc,h0,he'⟩
     ·omega
     ·exact hb c hc h0 (he.trans he')
   ·exact absurd rfl hk'
theorem Sat.turn (hs:Sat ds n E0 ρ0 w0 ρ E Z a w) {T:Nat->Prop} {w':World} (hsz:w.heap.size<=w'.heap.size) (hT:∀k,k<w.heap.size->¬ T k->w'.heap[k]? = w.heap[k]?) (hro:∀k,T k->ρ k=none)
  (hbx:∀b x,Z.bx.getD b none=some x->(E b).2≠0->¬ T (E b).1) (hown:∀k,T k->Own n E0 w0 k) (hos:w'.os=w.os) (ht:w'.tape=w.tape) (hout:w'.output=w.output):Sat ds n E0 ρ0 w0 ρ E Z a w' :=
 {hs with
  box:=fun b x hx=>by
   obtain ⟨h1,h2⟩:=hs.box b x hx;refine⟨h1,?_⟩;by_cases hk:(E b).2=0
   ·exact .inl hk
   ·rcases h2 with h2 | ⟨o,h3,h5⟩
    ·exact absurd h2 hk
    ·exact .inr ⟨o,by rw[hT _ (Array.getElem?_eq_some_iff.1 h3).1 (hbx b x hx hk)];exact h3,h5⟩
  ro:=fun k o hk=>by
   have:=hs.ro k o hk;rw[hT k (Array.getElem?_eq_some_iff.1 this).1 (fun h=>by rw[hro k h] at hk;cases hk)];exact this
  frame:=fun k hk hb=>by
   rw[hT k (by have:=hs.size;omega) (fun h=>by
    rcases hown k h with h' | ⟨c,hc,h0,he⟩
    ·omega
    ·exact hb c hc h0 he)]
   exact hs.frame k hk hb
  size:=Nat.le_trans hs.size hsz
  os:=hos.trans hs.os
  tape:=ht.trans hs.tape
  output:=hout.trans hs.output }
theorem Sat.sub (hs:Sat ds n E0 ρ0 w0 ρ E Z a w) {τ:St} (hl:τ.sl.length=Z.sl.length) (hsl:∀t,τ.sl.getD t .undef=Z.sl.getD t .undef\/τ.sl.getD t .undef=.undef)
  (hbx:∀b x,τ.bx.getD b none=some x->Z.bx.getD b none=some x):Sat ds n E0 ρ0 w0 ρ E τ a w:=by
 have hbox:∀b cs,τ.box b=some cs->Z.box b=some cs:=fun b cs h=>by
  obtain ⟨x,hx,rfl⟩:=yT h;exact yu (hbx b x hx)
 exact { hs with
  sz:=by rw[hl];exact hs.sz
  sl:=fun t=>by
   rcases hsl t with h | h<;>rw[h]
   ·exact hs.sl t
   ·exact .undef ..
  box:=fun b x hx=>hs.box b x (hbx b x hx)
  inj:=fun b b' cs cs' h h'=>hs.inj b b' cs cs' (hbox b cs h) (hbox b' cs' h')
  sep:=fun b cs h=>hs.sep b cs (hbox b cs h)
  own:=fun b cs h=>hs.own b cs (hbox b cs h) }
theorem Sat.mark (hs:Sat ds n E0 ρ0 w0 ρ E Z a w) {D:Nat} (h1:ρ D=some (.deferred (some []))) (h2:ρ0 D=none) (h3:w0.heap.size<=D) (h4:∀d∈ds,d≠{ target:=.collected D,args:=#[] }) :
  Sat ({ target:=.collected D,args:=#[] }::ds) n E0 ρ0 w0 ρ E Z { a with defers:={ target:=.collected D,args:=#[] }::a.defers } w:=by
 obtain ⟨Ds,e1,e2,e3⟩:=hs.defs;refine { hs with dfe:=by simp[hs.dfe],defs:=⟨D::Ds,by simp[e1],List.nodup_cons.2 ⟨fun hm=>?_,e2⟩,fun D' hD'=>?_⟩ }
 ·refine h4 { target:=.collected D,args:=#[] } ?_ rfl;rw[e1];exact List.mem_map.2 ⟨D,hm,rfl⟩
 ·rcases List.mem_cons.1 hD' with rfl | hD'
  ·exact⟨h1,h2,h3⟩
  ·exact e3 D' hD'
theorem Sat.apart (hi:Sat ds n E0 ρ0 w0 ρ E Z a w) {T:Nat->Prop} (h:∀b,b<n->(E0 b).2≠0->¬ T (E0 b).1) (hT:∀k,T k->k<w0.heap.size):∀b x,Z.bx.getD b none=some x->(E b).2≠0->¬ T (E b).1:=by
 intro b x hx hk ht;rcases Nat.lt_or_ge b n with hb | hb
 ·rw[hi.inc b hb] at hk ht;exact h b hb hk ht
 ·rcases hi.own b _ (yu hx) hk hb with h' | ⟨c,hc,h0,he⟩
  ·have:=hT _ ht;omega
  ·exact h c hc h0 (he▸ht)
theorem Sat.zG (hi:Sat ds n E0 ρ0 w0 ρ E Z a w) {T:Nat->Prop} (h:∀k,T k->ρ0 k=none) (hT:∀k,T k->k<w0.heap.size) (hb:∀b,b<n->(E0 b).2≠0->¬ T (E0 b).1):∀k,T k->ρ k=none:=by
 intro k hk;cases hr:ρ k with
 |none=>rfl
 |some o =>
  rcases hi.new k o hr (h k hk) with h' | ⟨c,hc,h0,he⟩
  ·have:=hT k hk;omega
  ·exact absurd (he▸hk) (hb c hc h0)
open Classical in
theorem Sat.zS {Z':St} (hs:Sat ds n E0 ρ0 w0 ρ E Z a w) (hw:x6 n Z Z') {T:Nat->Prop} (hT:∀b x,Z.bx.getD b none=some x->(E b).2≠0->¬ T (E b).1) :
  ∃E',Sat ds n E0 ρ0 w0 ρ E' Z' a w/\∀b x,Z'.bx.getD b none=some x->(E' b).2≠0->¬ T (E' b).1:=by
 obtain ⟨⟨h,h1,h2,h3,h4,h5⟩,hl⟩:=hw;let E':Lay:=fun b'=>if b'<n then E b' else if hx:∃b,h b=some b' then E (Classical.choose hx) else (0,0)
 have hμ:∀b b',h b=some b'->E' b'=E b:=by
  intro b b' hb;by_cases hlt:b'<n
  ·simp only[E',if_pos hlt];rw[h1 b b' hb hlt]
  have hx:∃b,h b=some b':=⟨b,hb⟩;simp only[E',if_neg hlt,dif_pos hx];rw[h3 _ b b' (Classical.choose_spec hx) hb]
 have hμ0:∀b',n<=b'->(∀b,h b≠some b')->E' b'=(0,0):=by
  intro b' hn hb;simp only[E'];rw[if_neg (by omega),dif_neg (fun⟨b,hx⟩=>hb b hx)]
 have hfr:∀b,LN h n b->(E' b).2=0:=fun b ⟨h1,h2⟩=>by rw[hμ0 b h1 h2]
 have hlive:∀b' x',Z'.bx.getD b' none=some x'->(E' b').2≠0->∃b x,h b=some b'/\Z.bx.getD b none=some x:=by
  intro b' x' hx' hk;rcases h5 b' x' hx' with ⟨b,x,g1,g2,_⟩ | ⟨_,gn,g⟩
  ·exact⟨b,x,g1,g2⟩
  ·rw[hμ0 b' gn g] at hk;exact absurd rfl hk
 refine⟨E',{ hs with sz:=by rw[hl];exact hs.sz,sl:=fun t=>XF (h4 t) hfr ((hs.sl t).zj hμ),box:=?_,inj:=?_,sep:=?_,own:=?_,inc:=?_ },fun b' x' hx' hk=>?_⟩
 ·intro b' x' hx';rcases h5 b' x' hx' with ⟨b,x,g1,g2,g3,g4,g6,g5⟩ | ⟨g1,gn,g⟩
  ·obtain ⟨k1,k2⟩:=hs.box b x g2;have hm:=hμ b b' g1;refine⟨by rw[hm,g4];exact k1,?_⟩;rw[hm];rcases k2 with k2 | ⟨o,k3,k5⟩
   ·exact .inl k2
   ·refine .inr ⟨o,k3,k5.imp g6 fun j cv h7=>?_⟩;have h6:=g5 j;unfold lev at h7 ⊢;rw[g3];by_cases ha:x.arr=true
    ·rw[if_pos ha] at h6 h7 ⊢;exact SN h6 h7
    ·rw[if_neg ha] at h6 h7 ⊢;exact XF h6 hfr (h7.zj hμ)
  ·exact⟨by rw[g1];exact Nat.zero_le _,.inl (by rw[hμ0 b' gn g])⟩
 ·intro b b' cs cs' hb hb' hne hk hk';obtain ⟨y,hy,-⟩:=yT hb;obtain ⟨y',hy',-⟩:=yT hb';obtain ⟨c,x,g1,g2⟩:=hlive b y hy hk;obtain ⟨c',x',g1',g2'⟩:=hlive b' y' hy' hk';rw[hμ c b g1,hμ c' b' g1'] at *;refine hs.inj c c' _ _ (yu g2) (yu g2') ?_ hk hk';rintro rfl;rw[g1] at g1';exact hne (Option.some.inj g1')
 ·intro b cs hb hk;obtain ⟨y,hy,-⟩:=yT hb;obtain ⟨c,x,g1,g2⟩:=hlive b y hy hk;rw[hμ c b g1] at *;exact hs.sep c _ (yu g2) hk
 ·intro b cs hb hk hn;obtain ⟨y,hy,-⟩:=yT hb;obtain ⟨c,x,g1,g2⟩:=hlive b y hy hk;rw[hμ c b g1] at *;exact hs.zZ (yu g2) hk
 ·intro b hb;simp only[E',if_pos hb];exact hs.inc b hb
 ·obtain ⟨c,x,g1,g2⟩:=hlive b' x' hx' hk;rw[hμ c b' g1] at *;exact hT c x g2 hk
end
def Ex.to:Ex->Exit
 |.normal=>.normal
 |.exit id=>.exit id
 |.ret=>.ret
section
variable {P:Program} {S:Specs} {ctl:Ctl}
def QT (P:Program) (S:Specs) (ctl:Ctl) (c:Code) (ro:Option Nat):Prop :=
 ∀ {ds:List Deferred} {n:Nat} {E0:Lay} {ρ0:RO} {w0:World} (K:Ex->St->Prop) (Q:Exit->Act->World->Prop) (ρ:RO) (E:Lay) (Z:St) (a:Act) (w:World),
  (∀(e:Ex) (a:Act) (w:World) (ds':List Deferred),(yJ c=true->ds'=ds)->At ds' n E0 ρ0 w0 (K e) a w->Q e.to a w) ->
  Sat ds n E0 ρ0 w0 ρ E Z a w->awp P S n ctl c Z K->c.wpIn (Fr ro) 0 P Q a w
def Q3 (P:Program) (S:Specs) (ctl:Ctl) (body:Code) (m:Nat) (bx:List (Option Bx)) (K':Ex->St->Prop):Ex->St->Prop:=fun e Za=>match e with
 |.normal=>if yE Za && (List.range m).all (fun b=>qq bx b == qq Za.bx b) then qK P S ctl body 0 Za.bx.length (Za.more (Za.sl.length+8)) K' else False
 |_=>False
structure zar (ds:List Deferred) (n:Nat) (E0:Lay) (ρ0:RO) (w0:World) (T:Nat->Prop) (l:Nat) (r:Loop) (ρ:RO) (a:Act) (W:World) (ρ3:RO) (E3:Lay) (Z:St) (w3:World):Prop where
 sat:Sat ds n E0 ρ0 w0 ρ3 E3 Z a w3
 le:ρ.le ρ3
 ro:∀k,T k->ρ3 k=none
 bx:∀b x,Z.bx.getD b none=some x->(E3 b).2≠0->¬ T (E3 b).1
 same:∀k,T k->k≠l->w3.heap[k]? = W.heap[k]?
 loop:w3.heap[l]? = some (.loop { r with state:=.busy })
 size:W.heap.size<=w3.heap.size
 os:w3.os=W.os
 tape:w3.tape=W.tape
 output:w3.output=W.output
theorem NF {l:Nat} {assign body:Code} (hA:QT P S ctl assign (some l)) (hB:QT P S ctl body (some l)) (na:yJ assign=true)
  {ds:List Deferred} {n:Nat} {E0:Lay} {ρ0:RO} {w0:World} {ρ:RO} {E:Lay} {τ:St} {a:Act} {W:World} (hs:Sat ds n E0 ρ0 w0 ρ E τ a W) (hlive:yE τ=true) (hn:n<=τ.bx.length)
  {r:Loop} (hl:W.heap[l]? = some (.loop r)) (hr:r.state=.ready) (hlo:w0.heap.size<=l)
  {T:Nat->Prop} (hTl:T l) (hTlt:∀k,T k->k<W.heap.size) (hTρ:∀k,T k->ρ k=none) (hTb:∀b x,τ.bx.getD b none=some x->(E b).2≠0->¬ T (E b).1)
  {sl:List AV} {tm:Array Value} (hz:sl.length=tm.size) (hv:∀t,Rv ρ (some E) (sl.getD t .undef) (tm.getD t Go.undef)) (hlv:∀b∈AV.zd sl,qq τ.bx b=true)
  {K':Ex->St->Prop} (h:qK P S ctl assign 0 τ.bx.length ⟨sl,τ.bx++List.replicate sl.length none⟩ (Q3 P S ctl body τ.bx.length (τ.bx++List.replicate sl.length none) fun e Z1=>if qL n τ.bx Z1.bx then K' e Z1 else False)) :
  assign.wpIn (Fr (some l)) 0 P (Exit.then (fun a1 w1=>∃w2,(Instr.beginRound l).run P w1=.ok () w2/\body.wpIn (Fr (some l)) 0 P (fun e _ w3=>∃ex ρ3 E3 Z3,e=Ex.to ex/\K' ex Z3 /\
   zar ds n E0 ρ0 w0 T l r ρ a W ρ3 E3 ⟨τ.sl,Z3.bx⟩ w3) a1 w2) (fun _ _ _=>False)) ⟨tm,[]⟩ W:=by
 have h1:=hs.zF hlive hz hv hlv sl.length;refine hA _ _ _ _ _ _ _ ?_ h1 h;rintro e a1 w1 ds' hds ⟨ρa,Ea,Za,hi,hk⟩;obtain rfl:=hds na;cases e with
 |exit i=>exact hk.elim
 |ret=>exact hk.elim
 |normal =>
  show ∃w2,(Instr.beginRound l).run P w1=.ok () w2/\_;simp only[Q3] at hk;split at hk
  case isFalse=>exact hk.elim
  rename_i hc;rw[Bool.and_eq_true] at hc;obtain ⟨hla,hkeep⟩:=hc;have hkeq:∀b,b<τ.bx.length->qq τ.bx b=qq Za.bx b:=by
   intro b hb;have hb':qq (τ.bx++List.replicate sl.length none) b=qq τ.bx b:=by unfold qq;rw[X7]
   have:=List.all_eq_true.1 hkeep b (List.mem_range.2 hb);rw[hb'] at this;simpa using this
  have hkeep':∀b,qq τ.bx b=true->qq Za.bx b=true:=fun b hb=>by rw[<- hkeq b (XA hb)];exact hb
  have hT0:∀b,b<τ.bx.length->(jy τ E b).2≠0->¬ T (jy τ E b).1:=by
   intro b _ hk;unfold jy at hk ⊢;split at hk
   ·rename_i hb;rw[if_pos hb];obtain ⟨x,hx⟩:=qU hb;exact hTb b x hx hk
   ·exact absurd rfl hk
  have ap1:=hi.apart (T:=T) hT0 hTlt;have ar1:=hi.zG (T:=T) hTρ hTlt hT0;have fr1:∀k,T k->w1.heap[k]? = W.heap[k]?:=fun k hk=>hi.frame k (hTlt k hk) (fun b hb hb2 he=>hT0 b hb hb2 (he▸hk))
  have hl1:=(fr1 l hTl).trans hl;have hsz1:=hi.size;have hcb:qL n τ.bx Za.bx=true:=by
   simp only[qL,Bool.and_eq_true];simp only[yE,Bool.and_eq_true] at hla;refine⟨List.all_eq_true.2 fun b hb=>?_,hla.2⟩;rw[hkeq b (by have:=List.mem_range.1 hb;omega)];cases qq Za.bx b<;>rfl
  have c1:=hs.compose hlive hi hcb;obtain ⟨Ec,hμc⟩:∃Ec:Lay,Sm n E Ea=Ec:=⟨_,rfl⟩;have hlc:∀b,qq Za.bx b=true->Ec b=Ea b:=fun b hb=>by rw[<- hμc];exact xS hi hcb hb
  rw[hμc] at c1;have c2:Sat ds n E0 ρ0 w0 ρa Ec ⟨τ.sl,Za.bx⟩ a (w1.putObj l (.loop { r with state:=.busy })) :=
   c1.turn (T:=(·=l)) (by simp) (fun k _ hk=>World.putObj_heap_other hk) (fun k hk=>hk▸ar1 l hTl) (fun b x hx hk he=>by
    rw[hlc b (wu hx)] at hk he;exact ap1 b x hx hk (by rw[he];exact hTl)) (fun k hk=>.inl (hk▸hlo)) rfl rfl rfl
  refine⟨_,run_beginRound hl1 hr,?_⟩;have hla':=hla;simp only[yE,Bool.and_eq_true,List.all_eq_true] at hla' hlive;have hlive2:yE ⟨τ.sl,Za.bx⟩=true:=by
   simp only[yE,Bool.and_eq_true,List.all_eq_true];exact⟨fun b hb=>hkeep' b (hlive.1 b hb),hla'.2⟩
  have h2:=c2.zF hlive2 (sl:=Za.sl) (tm:=a1.tmps) hi.sz (fun t=>(hi.sl t).lay fun b hb=>hlc b (hla'.1 b (yY hb))) (fun b hb=>hla'.1 b hb) (Za.sl.length+8);have ha1:a1=⟨a1.tmps,[]⟩:=by have:=hi.dfe;cases a1;simp_all
  rw[ha1];refine hB _ _ _ _ _ _ _ ?_ h2 hk;rintro e a3 w3 ds'' _ ⟨ρb,Eb,Zb,hj,hk3⟩;have hlt2:∀k,T k->k<(w1.putObj l (.loop { r with state:=.busy })).heap.size:=fun k hk=>by rw[World.putObj_size];have:=hTlt k hk;omega
  have hT2:∀b,b<Za.bx.length->(jy ⟨τ.sl,Za.bx⟩ Ec b).2≠0->¬ T (jy ⟨τ.sl,Za.bx⟩ Ec b).1:=by
   intro b _ hk;unfold jy at hk ⊢;split at hk
   ·rename_i hb;rw[if_pos hb];obtain ⟨x,hx⟩:=qU hb;rw[hlc b hb] at hk ⊢;exact ap1 b x hx hk
   ·exact absurd rfl hk
  have fr2:∀k,T k->w3.heap[k]? = (w1.putObj l (.loop { r with state:=.busy })).heap[k]?:=fun k hk=>hj.frame k (hlt2 k hk) (fun b hb hb2 he=>hT2 b hb hb2 (he▸hk))
  split at hk3
  case isFalse=>exact hk3.elim
  rename_i hbk;have hcb2:qL n Za.bx Zb.bx=true:=by
   simp only[qL,Bool.and_eq_true] at hbk ⊢;refine⟨List.all_eq_true.2 fun b hb=>?_,hbk.2⟩;have:=List.all_eq_true.1 hbk.1 b hb;rw[hkeq b (by have:=List.mem_range.1 hb;omega)] at this;exact this
  have ap2:=hj.apart (T:=T) hT2 hlt2;have hbx2:∀b x,Zb.bx.getD b none=some x->(Sm n Ec Eb b).2≠0->¬ T (Sm n Ec Eb b).1:=fun b x hx hk=>by
   have hb:=xS (Z:=⟨τ.sl,Za.bx⟩) (n:=n) hj hcb2 (wu hx);rw[hb] at hk ⊢;exact ap2 b x hx hk
  refine⟨e,ρb,_,Zb,rfl,hk3,{ sat:=c2.compose hlive2 hj hcb2,le:=hi.le.trans hj.le,ro:=hj.zG (T:=T) ar1 hlt2 hT2,bx:=hbx2,same:=fun k hk hne=>?_,loop:=?_,size:=?_,os:=hj.os.trans hi.os,tape:=hj.tape.trans hi.tape,output:=hj.output.trans hi.output }⟩
  ·rw[fr2 k hk,World.putObj_heap_other hne,fr1 k hk]
  ·rw[fr2 l hTl];exact World.putObj_heap_same (by have:=hTlt l hTl;omega)
  ·have:=hj.size;rw[World.putObj_size] at this;omega
end
theorem Qj {l:List AV}:∀(ts:List Nat) (t:Nat),(ts.foldl (fun l t=>l.set t .undef) l).getD t .undef=l.getD t .undef\/(ts.foldl (fun l t=>l.set t .undef) l).getD t .undef=.undef:=by
 intro ts;induction ts generalizing l with
 |nil=>intro t;exact .inl rfl
 |cons x r ih =>
  intro t;simp only[List.foldl_cons];rcases ih (l:=l.set x .undef) t with h | h
  ·rw[h,y5];split
   ·exact .inr rfl
   ·exact .inl rfl
  ·exact .inr h
theorem Wg:∀(ps:List Nat) (x:List AV) (sl:List AV),(j6 sl ps x).length=sl.length:=by
 intro ps;induction ps with
 |nil=>intro x sl;cases x<;>rfl
 |cons p ps ih =>
  intro x sl;cases x with
  |nil=>rfl
  |cons v x=>simp only[j6,ih,List.length_set]
theorem Ii {ρ:RO} {E:Option Lay}:∀(ps:List Nat) (x:List AV) (ys:List Value) (sl:List AV) (tm:Array Value),sl.length=tm.size->x.length=ys.length->(∀j,Rv ρ E (x.getD j .undef) (ys.getD j Go.undef)) ->
  (∀t,Rv ρ E (sl.getD t .undef) (tm.getD t Go.undef))->ps.length=x.length ->
  ((ps.zip ys).foldl (fun t q=>t.setIfInBounds q.1 q.2) tm).size=tm.size/\∀t,Rv ρ E ((j6 sl ps x).getD t .undef) (((ps.zip ys).foldl (fun t q=>t.setIfInBounds q.1 q.2) tm).getD t Go.undef):=by
 intro ps;induction ps with
 |nil=>intro x ys sl tm _ _ _ h _;exact⟨rfl,by simpa[j6] using h⟩
 |cons p ps ih =>
  intro x ys sl tm hz hl hx h hp;cases x with
  |nil=>simp at hp
  |cons v x =>
   cases ys with
   |nil=>simp at hl
   |cons y ys =>
    simp only[List.zip_cons_cons,List.foldl_cons,j6];obtain ⟨h1,h2⟩:=ih x ys (sl.set p v) (tm.setIfInBounds p y) (by simp[hz]) (by simpa using hl) (fun j=>by simpa using hx (j+1)) (fun t=>by
     rw[y5,jn,hz];split
     ·exact hx 0
     ·exact h t) (by simpa using hp)
    exact⟨by rw[h1];simp,h2⟩
mutual
theorem Wh (v:AV) (ht:v.tree=true):v.refs=[]:=by
 cases v with
 |ref b off=>simp[AV.tree] at ht
 |aslc b off len esz ag=>simp[AV.tree] at ht
 |map b=>simp[AV.tree] at ht
 |fn f a b =>
  simp only[AV.tree,Bool.and_eq_true] at ht;simp only[AV.refs];rw[wj a ht.1,wj b ht.2];rfl
 |iface t v=>simp only[AV.refs];exact Wh v (by simpa[AV.tree] using ht)
 |eptr cs off=>simp only[AV.refs];exact wj cs (by simpa[AV.tree] using ht)
 |agg cs=>simp only[AV.refs];exact wj cs (by simpa[AV.tree] using ht)
 |tup cs=>simp only[AV.refs];exact wj cs (by simpa[AV.tree] using ht)
 |_=>rfl
theorem wj (l:List AV) (ht:AV.zi l=true):AV.zd l=[]:=by
 cases l with
 |nil=>rfl
 |cons x r =>
  simp only[AV.zi,Bool.and_eq_true] at ht;simp only[AV.zd];rw[Wh x ht.1,wj r ht.2];rfl
end
theorem NK {b:Nat}:∀(ps:List Nat) (x:List AV) (sl:List AV),b∈AV.zd (j6 sl ps x)->AV.zi x=true->b∈AV.zd sl:=by
 intro ps;induction ps with
 |nil=>intro x sl h _;cases x<;>exact h
 |cons p ps ih =>
  intro x sl h ht;cases x with
  |nil=>exact h
  |cons v x =>
   simp only[AV.zi,Bool.and_eq_true] at ht;have h:=ih x _ h ht.2;obtain ⟨j,hj,hm⟩:=We h;have:b∈((sl.set p v).getD j .undef).refs:=hm;rw[y5] at this;split at this
   ·have hn:v.refs=[]:=Wh v ht.1;rw[hn] at this;cases this
   ·exact yY this
def Ex.code:Ex->Option Code
 |.normal=>none
 |.exit id=>some (.exit id)
 |.ret=>some .ret
theorem wB:∀(l:List AV),(AV.zn l).length=l.length
 |[]=>rfl
 |_::r=>congrArg (·+1) (wB r)
theorem u3 {l:List AV} {j:Nat}:(AV.zn l).getD j .undef=(l.getD j .undef).yd:=by
 induction l generalizing j with
 |nil=>rfl
 |cons x r ih =>
  cases j with
  |zero=>rfl
  |succ j=>simpa[AV.zn] using ih (j:=j)
theorem Rv.yd {ρ:RO} {E:Option Lay} {v:AV} {cv:Value} (hv:Rv ρ E v cv):Rv ρ E v.yd cv:=by
 induction hv with
 |undef E v=>exact .undef E v
 |tt E=>exact .tt E
 |ff E=>exact .ff E
 |bool E b=>exact .bool E b
 |lit E k n=>exact .lit E k n
 |int E k n=>exact .int E k n
 |str E s=>exact .str E s
 |nilp E=>exact .nilp E
 |eptr E cs b o off c hc h ih=>exact .eptr E (AV.zn cs) b o off c (fun j hj=>hc j (by rw[wB] at hj;exact hj)) (fun j=>by rw[u3];exact ih j)
 |ref E b off=>exact .ref E b off
 |nilslc E m=>exact .nilslc E m
 |eslc E m a hm=>exact .eslc E m a hm
 |slc E m es b o cap k c hm hcap h2 hk hc h _=>exact .slc E m es b o cap k c hm hcap h2 hk hc h
 |aslc E b off len esz ag cap hcap hr=>exact .aslc E b off len esz ag cap hcap hr
 |aslc0 E b esz ag a h0=>exact .aslc0 E b esz ag a h0
 |fn E f first caps vf vc hf hc h1 h2 _ _=>exact .fn E f first caps vf vc hf hc h1 h2
 |nilfn E=>exact .nilfn E
 |iface E t v v' h _=>exact .iface E t v v' h
 |nilif E=>exact .nilif E
 |agg E cs vs hl h ih=>exact .agg E (AV.zn cs) vs (by rw[wB];exact hl) (fun j=>by rw[u3];exact ih j)
 |tup E cs vs hl h _=>exact .tup E cs vs hl h
 |map E b=>exact .undef ..
 |nilmap E=>exact .nilmap E
 |yld E l=>exact .yld E l
def Gq (N:Nat->St->St->Prop) (K:Ex->St->Prop) (i:Nat) (τ:St) (e:Ex) (Z1:St):Prop:=match e with
 |.normal=>N i τ ⟨τ.sl,Z1.bx⟩
 |e=>K e ⟨τ.sl,Z1.bx⟩
theorem JA (cs:List AV):qh (AV.zn cs)=qh cs:=by
 match cs with
 |[]=>rfl
 |[x]=>cases x<;>rfl
 |_::_::_=>rfl
theorem Ka {P:Program} {n:Nat} {keep:List Nat} {xs:List (List AV)} {ps:List Nat} {F:St->(Ex->St->Prop)->Prop} {p:Pat} {Z0:St} {K:Ex->St->Prop} (hyl:p.yl.length=ps.length) (hpat:xY [] p=true)
  (h:if p.un.any List.isEmpty=true then
    (∀x∈xs,qZ p.yl x=true/\AV.zi x=true)/\(xs=[]->K .normal Z0) /\
    ∃I:Nat->List AV->Prop,(Y5 (p.res n Z0).yl fun x=>xs[0]? = some x ->
      if yE Z0 && decide (n<=Z0.bx.length) then F ⟨j6 Z0.sl ps x,Z0.bx++List.replicate Z0.sl.length none⟩ fun e Z1=>if qL n Z0.bx Z1.bx then (match e with
       |.normal=>qe P n keep [] (p.res n Z0) false Z0 ⟨Z0.sl,Z1.bx⟩ (I 1)
       |e=>K e ⟨Z0.sl,Z1.bx⟩) else False
      else False) /\
     (∀i:Nat,Y5 (p.res n Z0).yl fun x=>xs[i+1]? = some x->jV P n keep [] (p.res n Z0) Z0 fun vs τ=>I (i+1) vs ->
      if yE τ && decide (n<=τ.bx.length) then F ⟨j6 τ.sl ps x,τ.bx++List.replicate τ.sl.length none⟩ fun e Z1=>if qL n τ.bx Z1.bx then (match e with
       |.normal=>qe P n keep [] (p.res n Z0) false Z0 ⟨τ.sl,Z1.bx⟩ (I (i+2))
       |e=>K e ⟨τ.sl,Z1.bx⟩) else False
      else False) /\
     jV P n keep [] (p.res n Z0) Z0 fun vs τ=>I xs.length vs->K .normal τ
   else if p.un.isEmpty=false then ((p.un.all fun x=>AV.zi x && x.length == ps.length)=true/\xs=p.un)/\YZ n ps F K p.un Z0 else
   (∀x∈xs,qZ p.yl x=true/\AV.zi x=true) /\
   ∃I:Nat->List AV->Prop,qe P n keep [] (p.res n Z0) true Z0 Z0 (I 0) /\
    (∀i:Nat,Y5 (p.res n Z0).yl fun x=>xs[i]? = some x->jV P n keep [] (p.res n Z0) Z0 fun vs τ=>I i vs ->
     if yE τ && decide (n<=τ.bx.length) then F ⟨j6 τ.sl ps x,τ.bx++List.replicate τ.sl.length none⟩ fun e Z1=>if qL n τ.bx Z1.bx then (match e with
      |.normal=>qe P n keep [] (p.res n Z0) false Z0 ⟨τ.sl,Z1.bx⟩ (I (i+1))
      |e=>K e ⟨τ.sl,Z1.bx⟩) else False
     else False) /\
    jV P n keep [] (p.res n Z0) Z0 fun vs τ=>I xs.length vs->K .normal τ) :
  (∀x∈xs,x.length=ps.length/\AV.zi x=true)/\∃(HD:Nat->St->Prop) (N:Nat->St->St->Prop),(∃τ0,(τ0=Z0\/x6 n Z0 τ0)/\HD 0 τ0) /\
   (∀i x τ,xs[i]? = some x->HD i τ->(if yE τ && decide (n<=τ.bx.length) then F ⟨j6 τ.sl ps x,τ.bx++List.replicate τ.sl.length none⟩ (fun e Z1=>if qL n τ.bx Z1.bx then Gq N K i τ e Z1 else False) else False)) /\
   (∀i τ bx,HD i τ->N i τ ⟨τ.sl,bx⟩->∃τ',(τ'=⟨τ.sl,bx⟩\/x6 n ⟨τ.sl,bx⟩ τ')/\HD (i+1) τ') /\
   ∀τ,HD xs.length τ->K .normal τ:=by
 split at h
 ·obtain ⟨hxs,hnil,I,hfirst,hround,hend⟩:=h;generalize hp':p.res n Z0=p' at hfirst hround hend;have hin:xY [] p'=true:=by rw[<- hp'];exact hpat
  have hylp:p'.yl=p.yl:=by rw[<- hp'];rfl
  refine⟨fun x hx=>⟨by rw[<- uG _ _ (hxs x hx).1];exact hyl,(hxs x hx).2⟩,fun i τ=>(i=0/\τ=Z0)\/(0<i/\∃gs ls bs',I i (xT gs ls bs')/\qZ (p'.gen.map (·.2)) gs=true/\ls.length=p'.app.length+p'.cap.length/\qZ (p'.bgen.map (·.2)) bs'=true /\
   τ=wY p'.cap (q6 P n (keep++qQ Z0.sl.length p'.cap) ([]++qQ Z0.sl.length p'.cap) (p'.up Z0.sl.length) (j5 p'.cap Z0) gs ls bs')),fun i _ Z=>qe P n keep [] p' false Z0 Z (I (i+1)),⟨Z0,.inl rfl,.inl ⟨rfl,rfl⟩⟩,?_,?_,?_⟩
  ·rintro i x τ hx (⟨rfl,rfl⟩ | ⟨hi,gs,ls,bs',g1,g2,g3,g4,rfl⟩)
   ·exact wx _ _ (by rw[hylp];exact(hxs x (List.mem_of_getElem? hx)).1) hfirst hx
   ·obtain ⟨i,rfl⟩:∃j,i=j+1:=⟨i-1,by omega⟩;exact ki g2 g3 g4 (wx _ _ (by rw[hylp];exact(hxs x (List.mem_of_getElem? hx)).1) (hround i) hx) g1
  ·rintro i τ bx (⟨rfl,rfl⟩ | ⟨hi,gs,ls,bs',g1,g2,g3,g4,hτ⟩) hk3
   ·obtain ⟨gs',ls',bs'',k1,k2,k3,k4,k5⟩:=qI (P:=P) (n:=n) (Z0:=τ) (Z:=⟨τ.sl,bx⟩) (entry:=false) (keep:=keep) (D:=[]) rfl (fun t _ _=>rfl) (fun he=>by cases he) hk3;exact⟨_,.inr k5,.inr ⟨by omega,gs',ls',bs'',k1,k2,k3,k4,rfl⟩⟩
   ·have hfr':=kD (P:=P) (n:=n) (keep:=keep) (Z:=Z0) (gs:=gs) (ls:=ls) (bs:=bs') hin;rw[<- hτ] at hfr';obtain ⟨gs',ls',bs'',k1,k2,k3,k4,k5⟩:=qI (P:=P) (n:=n) (Z:=⟨τ.sl,bx⟩) (entry:=false) (keep:=keep) (D:=[]) hfr'.1 (fun t h1 _=>hfr'.2 t (fun h=>h.elim (fun h=>by cases h) (fun h=>h h1))) (fun he=>by cases he) hk3;exact⟨_,.inr k5,.inr ⟨by omega,gs',ls',bs'',k1,k2,k3,k4,rfl⟩⟩
  ·rintro τ (⟨h0,rfl⟩ | ⟨hi,gs,ls,bs',g1,g2,g3,g4,rfl⟩)
   ·exact hnil (List.length_eq_zero_iff.1 h0)
   ·exact ki g2 g3 g4 hend g1
 split at h
 ·obtain ⟨⟨htr,hun⟩,h⟩:=h;rw[<- hun] at h htr;refine⟨fun x hx=>?_,fun i τ=>YZ n ps F K (xs.drop i) τ,fun i _ τ=>YZ n ps F K (xs.drop (i+1)) τ,⟨Z0,.inl rfl,h⟩,fun i x τ hx hd=>?_,fun i τ bx _ h=>⟨_,.inl rfl,h⟩,fun τ hd=>?_⟩
  ·have:=List.all_eq_true.1 htr x hx;simp only[Bool.and_eq_true,beq_iff_eq] at this;exact⟨this.2,this.1⟩
  ·obtain ⟨hlt,rfl⟩:=List.getElem?_eq_some_iff.1 hx;dsimp only at hd;rw[List.drop_eq_getElem_cons hlt] at hd;exact hd
  ·dsimp only at hd;rw[List.drop_of_length_le (Nat.le_refl _)] at hd;exact hd
 ·obtain ⟨hxs,I,hI0,hround,hend⟩:=h;generalize hp':p.res n Z0=p' at hI0 hround hend;have hin:xY [] p'=true:=by rw[<- hp'];exact hpat
  have hylp:p'.yl=p.yl:=by rw[<- hp'];rfl
  refine⟨fun x hx=>⟨by rw[<- uG _ _ (hxs x hx).1];exact hyl,(hxs x hx).2⟩,fun i τ=>∃gs ls bs',I i (xT gs ls bs')/\qZ (p'.gen.map (·.2)) gs=true/\ls.length=p'.app.length+p'.cap.length/\qZ (p'.bgen.map (·.2)) bs'=true /\
   τ=wY p'.cap (q6 P n (keep++qQ Z0.sl.length p'.cap) ([]++qQ Z0.sl.length p'.cap) (p'.up Z0.sl.length) (j5 p'.cap Z0) gs ls bs'),fun i _ Z=>qe P n keep [] p' false Z0 Z (I (i+1)),?_,?_,?_,?_⟩
  ·obtain ⟨gs,ls,bs',h1,h2,h3,h4,h5⟩:=qI (P:=P) (n:=n) rfl (fun _ _ _=>rfl) (fun _=>rfl) hI0;exact⟨_,.inr h5,gs,ls,bs',h1,h2,h3,h4,rfl⟩
  ·rintro i x τ hx ⟨gs,ls,bs',g1,g2,g3,g4,rfl⟩;exact ki g2 g3 g4 (wx _ _ (by rw[hylp];exact(hxs x (List.mem_of_getElem? hx)).1) (hround i) hx) g1
  ·rintro i τ bx ⟨gs,ls,bs',g1,g2,g3,g4,hτ⟩ hk3;have hfr':=kD (P:=P) (n:=n) (keep:=keep) (Z:=Z0) (gs:=gs) (ls:=ls) (bs:=bs') hin;rw[<- hτ] at hfr';obtain ⟨gs',ls',bs'',k1,k2,k3,k4,k5⟩:=qI (P:=P) (n:=n) (Z:=⟨τ.sl,bx⟩) (entry:=false) (keep:=keep) (D:=[]) hfr'.1 (fun t h1 _=>hfr'.2 t (fun h=>h.elim (fun h=>by cases h) (fun h=>h h1))) (fun he=>by cases he) hk3;exact⟨_,.inr k5,gs',ls',bs'',k1,k2,k3,k4,rfl⟩
  ·rintro τ ⟨gs,ls,bs',g1,g2,g3,g4,rfl⟩;exact ki g2 g3 g4 hend g1
section
variable {P:Program} {S:Specs} {ctl:Ctl}
open Classical in
theorem NC {assign body:Code} (hA:∀l,QT P S ctl assign (some l)) (hB:∀l,QT P S ctl body (some l)) (na:yJ assign=true) (hq:∀g args O xs,S.seq g args O xs->kS P g args O xs)
  {ds:List Deferred} {n:Nat} {E0:Lay} {ρ0:RO} {w0:World} {ρ:RO} {E:Lay} {Z:St} {a:Act} {w:World} {cl:List Nat} {p:Pat} {g:Operand} {ps:Array Tmp} {K:Ex->St->Prop} {Q:Exit->Act->World->Prop}
  (hQ:∀e a w ds',At ds' n E0 ρ0 w0 (K e) a w->Q (Ex.to e) a w) (hs:Sat ds n E0 ρ0 w0 ρ E Z a w)
  (h:QE P S n ctl.keep cl p g ps.toList (fun τ K'=>qK P S ctl assign 0 (τ.bx.length-τ.sl.length) τ (Q3 P S ctl body (τ.bx.length-τ.sl.length) τ.bx K')) Z K):(Code.rangeFunc g ps assign body).wpIn (Fr none) 0 P Q a w:=by
 unfold QE at h;split at h
 case h_2=>exact h.elim
 rename_i gf capz hev;generalize hcz:AV.zn capz=caps at h;generalize hBd:Wd Z capz=B at h;split at h
 case h_2=>exact h.elim
 rename_i bs hbs;split at h
 case isFalse=>exact h.elim
 rename_i hc;simp only[Bool.and_eq_true,List.all_eq_true,Bool.not_eq_true',decide_eq_true_eq] at hc;obtain ⟨⟨⟨⟨harr,hcapA⟩,hnd⟩,hyl⟩,hpat⟩:=hc;obtain ⟨xs,hseq,hway⟩:=h;have hSeq:=hq _ _ _ _ hseq;have hg:=hs.eval g;rw[hev] at hg;obtain ⟨vc,hge,hcl,hcr⟩:∃vc:Array Value,a.eval g=.func (.func gf) #[] vc/\caps.length=vc.size/\∀j,Rv ρ (some E) (caps.getD j .undef) (vc.getD j Go.undef):=by
  generalize hu:a.eval g=u at hg;cases hg with
  |fn _ _ _ _ vf vc hf hc h1 h2 =>
   have:vf=#[]:=by simpa using hf.symm
   subst this;subst hcz;exact⟨vc,rfl,by rw[wB];exact hc,fun j=>by rw[u3];exact(h2 j).yd⟩
 obtain ⟨hbl,hbi⟩:=vW hbs;have hget:∀(i:Nat),i<B.length->∃(b:Nat) (x:Bx),B[i]? = some b/\bs[i]? = some x/\Z.bx.getD b none=some x/\b∈B:=by
  intro i hi;obtain ⟨x,h1,h2⟩:=hbi i B[i] (by simp[hi]);exact⟨B[i],x,by simp[hi],h1,h2,List.getElem_mem hi⟩
 have hBx:∀b,b∈B->∃(i:Nat) (x:Bx),B[i]? = some b/\bs[i]? = some x/\Z.bx.getD b none=some x:=by
  intro b hb;obtain ⟨i,hi,rfl⟩:=List.getElem_of_mem hb;obtain ⟨x,h1,h2⟩:=hbi i B[i] (by simp[hi]);exact⟨i,x,by simp[hi],h1,h2⟩
 have hdist:∀(i j b b':Nat),i≠j->B[i]? = some b->B[j]? = some b'->b≠b':=by
  rintro i j b b' hij hi hj rfl;obtain ⟨h1,h2⟩:=List.getElem?_eq_some_iff.1 hi;obtain ⟨h3,h4⟩:=List.getElem?_eq_some_iff.1 hj;rcases Nat.lt_or_gt_of_ne hij with hl | hl
  ·exact List.pairwise_iff_getElem.1 hnd i j h1 h3 hl (by rw[h2,h4])
  ·exact List.pairwise_iff_getElem.1 hnd j i h3 h1 hl (by rw[h2,h4])
 have blkLt:∀b x,Z.bx.getD b none=some x->(E b).2≠0->(E b).1<w.heap.size:=by
  intro b x hb hk;rcases (hs.box b x hb).blk with h0 | ⟨o,h,_⟩
  ·exact absurd h0 hk
  ·exact(Array.getElem?_eq_some_iff.1 h).1
 have roLt:∀k o,ρ k=some o->k<w.heap.size:=fun k o hk=>(Array.getElem?_eq_some_iff.1 (hs.ro k o hk)).1
 refine wpIn_rangeFunc (F:=Fr none) ?_;intro fn hfn;obtain ⟨rec,hrec⟩:∃rec:LoopState->Option Code->Loop,rec=fun st pe=>{ state:=st,pending:=pe,fn,tmps:=a.tmps,params:=ps,assign,body,defers:=w.heap.size }:=⟨_,rfl⟩
 obtain ⟨W1,hW1⟩:∃W1,(w.alloc (.deferred (some []))).alloc (.loop (rec .ready none))=W1:=⟨_,rfl⟩;obtain ⟨l,hl⟩:∃l,l=w.heap.size+1:=⟨_,rfl⟩;have hsz1:W1.heap.size=w.heap.size+2:=by rw[<- hW1];simp
 have hL1:W1.heap[l]? = some (.loop (rec .ready none)):=by
  rw[<- hW1,hl];have:=World.alloc_heap_new (w.alloc (.deferred (some []))) (.loop (rec .ready none));rwa[World.size_alloc] at this
 have hK1:W1.heap[w.heap.size]? = some (.deferred (some [])):=by
  rw[<- hW1];exact(Below.heap_alloc _ _ _ (by simp)).trans (World.alloc_heap_new w _)
 have hold:∀k,k<w.heap.size->W1.heap[k]? = w.heap[k]?:=by
  intro k hk;rw[<- hW1];exact(Below.heap_alloc _ _ _ (by simp;omega)).trans (Below.heap_alloc _ _ _ hk)
 have hos1:W1.os=w.os/\W1.tape=w.tape/\W1.output=w.output:=by rw[<- hW1];exact⟨rfl,rfl,rfl⟩
 let ρ1:RO:=fun k=>if k=w.heap.size then some (.deferred (some [])) else ρ k
 have hle1:ρ.le ρ1:=fun k o hk=>by
  show (if k=w.heap.size then _ else ρ k)=_;rw[if_neg (by have:=roLt k o hk;omega)];exact hk
 have hro1:∀k o,ρ1 k=some o->W1.heap[k]? = some o:=by
  intro k o hk;simp only[ρ1] at hk;split at hk
  ·rename_i he;rw[he,hK1];exact hk
  ·rw[hold k (roLt k o hk)];exact hs.ro k o hk
 have hs1:Sat ds n E0 ρ0 w0 ρ1 E Z a W1:=hs.zu hle1 hro1 (fun k o hk h0=>by
  simp only[ρ1] at hk;split at hk
  ·omega
  ·rw[h0] at hk;cases hk) hold (by omega) hos1.1 hos1.2.1 hos1.2.2
 let T0:Nat->Prop:=fun k=>∃b x,b∈B/\Z.bx.getD b none=some x/\(E b).2≠0/\(E b).1=k
 let T:Nat->Prop:=fun k=>T0 k\/k=l
 have hT0lt:∀k,T0 k->k<w.heap.size:=by rintro k ⟨b,x,_,hx,hk,rfl⟩;exact blkLt b x hx hk
 have hTlt:∀k,T k->k<W1.heap.size:=by
  rintro k (hk | hk)
  ·have:=hT0lt k hk;omega
  ·omega
 have hTρ:∀k,T k->ρ1 k=none:=by
  rintro k (⟨b,x,hb,hx,hk,rfl⟩ | hk)
  ·have h1:=hs.sep b _ (yu hx) hk;have h2:=blkLt b x hx hk;simp only[ρ1];rw[if_neg (by omega)];exact h1
  ·simp only[ρ1];rw[if_neg (by omega)];cases hr:ρ k with
   |none=>rfl
   |some o=>have:=roLt k o hr;omega
 have hlo:w0.heap.size<=l:=by have:=hs.size;omega
 have hTown:∀k,T k->Own n E0 w0 k:=by
  rintro k (⟨b,x,hb,hx,hk,rfl⟩ | hk)
  ·by_cases hbn:n<=b
   ·exact hs.own b _ (yu hx) hk hbn
   ·have he:=hs.inc b (by omega);exact .inr ⟨b,by omega,by rw[<- he];exact hk,by rw[he]⟩
  ·exact .inl (hk▸hlo)
 obtain ⟨Z0,hσ0⟩:∃Z0:St,Z0=⟨(QL g++cl).foldl (fun l t=>l.set t .undef) Z.sl,WG Z.bx fun b x=>if B.contains b then none else x⟩:=⟨_,rfl⟩;have hb0:∀b x,Z0.bx.getD b none=some x->b∉B/\Z.bx.getD b none=some x:=by
  intro b x hx;rw[hσ0] at hx;simp only at hx;rw[wH] at hx;split at hx
  ·split at hx
   ·cases hx
   ·rename_i hn;exact⟨by simpa using hn,hx⟩
  ·cases hx
 have hs2:Sat ds n E0 ρ0 w0 ρ1 E Z0 a W1:=hs1.sub (by rw[hσ0];exact wm _) (fun t=>by rw[hσ0];exact Qj _ t) (fun b x hx=>(hb0 b x hx).2);have hTb0:∀b x,Z0.bx.getD b none=some x->(E b).2≠0->¬ T (E b).1:=by
  rintro b x hx hk (⟨b',x',hb',hx',hk',he⟩ | he)
  ·obtain ⟨h1,h2⟩:=hb0 b x hx;exact hs.inj b b' _ _ (yu h2) (yu hx') (by rintro rfl;exact h1 hb') hk hk' he.symm
  ·have:=blkLt b x (hb0 b x hx).2 hk;omega
 obtain ⟨a',ha'⟩:∃a':Act,a'={ a with defers:={ target:=.collected w.heap.size,args:=#[] }::a.defers }:=⟨_,rfl⟩;have hs3:Sat ({ target:=.collected w.heap.size,args:=#[] }::ds) n E0 ρ0 w0 ρ1 E Z0 a' W1:=by
  rw[ha'];refine hs2.mark (by simp only[ρ1,if_true]) ?_ hs.size ?_
  ·cases h0:ρ0 w.heap.size with
   |none=>rfl
   |some o=>have:=roLt _ o (hs.le _ _ h0);omega
  ·intro d hd he;obtain ⟨Ds,e1,e2,e3⟩:=hs.defs;rw[e1] at hd;obtain ⟨D',hD',rfl⟩:=List.mem_map.1 hd;simp only[Deferred.mk.injEq,Target.collected.injEq,and_true] at he;have:=roLt _ _ (e3 D' hD').1;omega
 generalize { target:=Target.collected w.heap.size,args:=#[] }::ds=ds' at hs3;rw[<- hσ0] at hway;generalize hF:(fun τ K'=>qK P S ctl assign 0 (τ.bx.length-τ.sl.length) τ (Q3 P S ctl body (τ.bx.length-τ.sl.length) τ.bx K'))=F at hway;obtain ⟨hxs,HD,N,⟨τ0,hτ0,hH0⟩,hround,hnext,hend⟩:=Ka hyl hpat hway;have hround:∀i x τ,xs[i]? = some x->HD i τ->(if yE τ && decide (n<=τ.bx.length) then qK P S ctl assign 0 ((τ.bx++List.replicate τ.sl.length none).length-(j6 τ.sl ps.toList x).length) ⟨j6 τ.sl ps.toList x,τ.bx++List.replicate τ.sl.length none⟩ (Q3 P S ctl body ((τ.bx++List.replicate τ.sl.length none).length-(j6 τ.sl ps.toList x).length) (τ.bx++List.replicate τ.sl.length none) fun e Z1=>if qL n τ.bx Z1.bx then Gq N K i τ e Z1 else False) else False):=by
  subst hF;exact hround
 let Hd:(Nat->Prop)->RO->Lay->St->World->Prop:=fun T ρ' E' τ W=>(∀k,T k\/k=l->ρ' k=none)/\(∀b x,τ.bx.getD b none=some x->(E' b).2≠0->¬ (T (E' b).1\/(E' b).1=l))/\∀k,T k->k<W.heap.size/\Own n E0 w0 k/\k≠l
 let J:ItJ:=fun ρI T i W=>W1.heap.size<=W.heap.size/\∃ρ' E' τ,HD i τ/\Sat ds' n E0 ρ0 w0 ρ' E' τ a' W/\ρI.le ρ'/\Hd T ρ' E' τ W/\W.heap[l]? = some (.loop (rec .ready none))
 let Jx:ItX:=fun ρI T W=>W1.heap.size<=W.heap.size/\∃ex c ρ' E' τ,Ex.code ex=some c/\K ex τ/\Sat ds' n E0 ρ0 w0 ρ' E' τ a' W/\ρI.le ρ'/\Hd T ρ' E' τ W/\W.heap[l]? = some (.loop (rec .done (some c)))
 have hstepS:∀ {ρI:RO} {T:Nat->Prop} {W:World} {ρI':RO} {T':Nat->Prop} {W':World} {ρ':RO} {E':Lay} {τ:St},Sat ds' n E0 ρ0 w0 ρ' E' τ a' W->ρI.le ρ'->Hd T ρ' E' τ W->XL ρI T W ρI' T' W'->l<W.heap.size ->
   ∃ρ'',Sat ds' n E0 ρ0 w0 ρ'' E' τ a' W'/\ρI'.le ρ''/\Hd T' ρ'' E' τ W'/\W'.heap[l]? = W.heap[l]?:=by
  rintro ρI T W ρI' T' W' ρ' E' τ hsat hle ⟨d1,d2,d3⟩ hst hlW;have hlT:¬ T l:=fun h=>(d3 l h).2.2 rfl
  have hl':=hst.frame l hlW hlT;have hsz:=hsat.size;have hlt':∀k o,ρ' k=some o->k<W.heap.size:=fun k o h=>(Array.getElem?_eq_some_iff.1 (hsat.ro k o h)).1
  have h1:=hsat.turn (T:=T) hst.size hst.frame (fun k hk=>d1 k (.inl hk)) (fun b x hx hk ht=>d2 b x hx hk (.inl ht)) (fun k hk=>(d3 k hk).2.1) hst.os hst.tape hst.output;have hblk:∀b cs,τ.box b=some cs->(E' b).2≠0->(E' b).1<W.heap.size:=by
   intro b cs hb hk;obtain ⟨y,hy,rfl⟩:=yT hb;rcases (hsat.box b y hy).blk with h0 | ⟨o,h,_⟩
   ·exact absurd h0 hk
   ·exact(Array.getElem?_eq_some_iff.1 h).1
  have hI':∀k,ρ' k=none->∀o,ρI' k=some o->T k\/W.heap.size<=k:=fun k hn o ho=>by
   cases hk:ρI k with
   |none=>exact hst.new k o ho hk
   |some o'=>rw[hle k o' hk] at hn;cases hn
  let ρ'':RO:=fun k=>match ρ' k with
   |some o=>some o
   |none=>ρI' k
  have e1:∀k o,ρ' k=some o->ρ'' k=some o:=fun k o h=>by simp only[ρ'',h]
  have e2:∀k,ρ' k=none->ρ'' k=ρI' k:=fun k h=>by simp only[ρ'',h]
  have hro:∀k o,ρ'' k=some o->W'.heap[k]? = some o:=fun k o h=>by
   cases hk:ρ' k with
   |some o'=>rw[e1 k o' hk] at h;cases h;exact h1.ro k o hk
   |none=>rw[e2 k hk] at h;exact hst.ro k o h
  have hnone:∀k,ρ' k=none->k<W.heap.size->¬ T k->ρ'' k=none:=fun k hk hlt ht=>by
   rw[e2 k hk];cases ho:ρI' k with
   |none=>rfl
   |some o =>
    rcases hI' k hk o ho with h | h
    ·exact absurd h ht
    ·omega
  refine⟨ρ'',h1.yg (ρ':=ρ'') e1 hro (fun b cs hb hk=>?_) (fun k o h hk=>?_),fun k o h=>?_,⟨fun k hk=>?_,fun b x hx hk hT=>?_,fun k hk=>?_⟩,hl'⟩
  ·obtain ⟨y,hy,rfl⟩:=yT hb;have hn:=hsat.sep b _ hb hk;exact hnone _ hn (hblk b _ hb hk) fun ht=>d2 b y hy hk (.inl ht)
  ·rw[e2 k hk] at h;rcases hI' k hk o h with ht | ht
   ·exact(d3 k ht).2.1
   ·exact .inl (by omega)
  ·cases hk:ρ' k with
   |none=>rw[e2 k hk];exact h
   |some o' =>
    rw[e1 k o' hk];have a1:=hst.ro k o h;have a2:=h1.ro k o' hk;rw[a1] at a2;exact a2.symm
  ·rcases hk with hk | rfl
   ·have hn:=hst.sep k hk;cases hr:ρ' k with
    |none=>rw[e2 k hr];exact hn
    |some o =>
     exfalso;rcases hst.own k hk with ht | ht
     ·rw[d1 k (.inl ht)] at hr;cases hr
     ·have:=hlt' k o hr;omega
   ·exact hnone k (d1 k (.inr rfl)) hlW hlT
  ·rcases hT with hT | hT
   ·have hb:=hblk b _ (yu hx) hk;rcases hst.own _ hT with ht | ht
    ·exact d2 b x hx hk (.inl ht)
    ·omega
   ·exact d2 b x hx hk (.inr hT)
  ·refine⟨hst.lt k hk,?_,?_⟩
   ·rcases hst.own k hk with ht | ht
    ·exact(d3 k ht).2.1
    ·exact .inl (by omega)
   ·rintro rfl;rcases hst.own k hk with ht | ht
    ·exact hlT ht
    ·omega
 let EB:Lay:=fun i=>match B[i]? with | some b=>E b | none=>(0,0)
 have hμB:∀(i b:Nat),B[i]? = some b->EB i=E b:=fun i b hi=>by simp only[EB,hi]
 have hren:∀(b i:Nat),idx b B=some i->EB i=E b:=fun b i hi=>hμB i b (kG hi)
 have hOl:(bs.map fun x=>AV.za (AV.zg (idx · B) (AV.zn x.cs))).length=B.length:=by simp[hbl]
 have hT0B:∀k,T0 k->∃i,i<B.length/\(EB i).2≠0/\k=(EB i).1:=by
  rintro k ⟨b,x,hb,hx,hk,rfl⟩;obtain ⟨i,_,hi,_,_⟩:=hBx b hb;refine⟨i,(List.getElem?_eq_some_iff.1 hi).1,?_,?_⟩<;>rw[hμB i b hi];exact hk
 have hBT0:∀i,i<B.length->(EB i).2≠0->T0 (EB i).1:=by
  intro i hi hk;obtain ⟨b,x,h1,_,h3,h4⟩:=hget i hi;rw[hμB i b h1] at hk ⊢;exact⟨b,x,h4,h3,hk,rfl⟩
 have hlT0:¬ T0 l:=fun h=>by have:=hT0lt l h;omega
 have hBk:∀k,jL EB (bs.map fun x=>AV.za (AV.zg (idx · B) (AV.zn x.cs))).length k->T0 k:=by
  rintro k ⟨b,hb,hk,rfl⟩;rw[hOl] at hb;exact hBT0 b hb hk
 have hrun:=hSeq.run ρ1 EB W1 vc l J Jx (hs1.gl.mono hs1.le) hro1 ?hbox ?hinj ?hsep ?hargs ?hJ ?hJx ?hround ?hJ0
 case hbox =>
  intro i cs hi;simp only[List.getElem?_map] at hi;obtain ⟨x,hx,rfl⟩:=Option.map_eq_some_iff.1 hi;have hil:i<B.length:=by have:=(List.getElem?_eq_some_iff.1 hx).1;omega
  obtain ⟨b,y,h1,h2,h3,h4⟩:=hget i hil;rw[hx] at h2;cases h2;obtain ⟨k1,k2⟩:=hs1.box b x h3;have hm:=hμB i b h1;refine⟨by rw[hm];simpa[yD,yS,wB] using k1,?_⟩;rw[hm];rcases k2 with k2 | ⟨o,k3,k5⟩
  ·exact .inl k2
  ·refine .inr ⟨o,k3,k5.imp (by rw[xo,wF,JA]) (fun j cv h6=>?_) (hl:=by rw[q9,(harr x (List.mem_of_getElem? hx)).1];rfl)⟩;rw[yU,y9,u3];unfold lev at h6;rw[if_neg (by have:=(harr x (List.mem_of_getElem? hx)).1;simp[this])] at h6;exact(h6.yd.zj hren).norm
 case hinj =>
  intro i j hi hj hij hk hk';rw[hOl] at hi hj;obtain ⟨b,x,h1,_,h3,_⟩:=hget i hi;obtain ⟨b',x',h1',_,h3',_⟩:=hget j hj;rw[hμB i b h1,hμB j b' h1'] at *;exact hs.inj b b' _ _ (yu h3) (yu h3') (hdist i j b b' hij h1 h1') hk hk'
 case hsep =>
  intro i hi hk;rw[hOl] at hi;exact hTρ _ (.inl (hBT0 i hi hk))
 case hargs =>
  refine⟨by rw[yD,yS];exact hcl,fun j=>?_⟩;rw[yU,y9];exact(((hcr j).mono hle1).zj hren).norm
 case hJ =>
  rintro ρI T i W ρI' T' W' ⟨hsz,ρ',E',τ,h1,h2,h3,h4,h6⟩ hst;obtain ⟨ρ'',g1,g2,g3,g4⟩:=hstepS h2 h3 h4 hst (Array.getElem?_eq_some_iff.1 h6).1;exact⟨Nat.le_trans hsz hst.size,ρ'',E',τ,h1,g1,g2,g3,g4.trans h6⟩
 case hJx =>
  rintro ρI T W ρI' T' W' ⟨hsz,ex,c,ρ',E',τ,h0,h1,h2,h3,h4,h6⟩ hst;obtain ⟨ρ'',g1,g2,g3,g4⟩:=hstepS h2 h3 h4 hst (Array.getElem?_eq_some_iff.1 h6).1;exact⟨Nat.le_trans hsz hst.size,ex,c,ρ'',E',τ,h0,h1,g1,g2,g3,g4.trans h6⟩
 case hJ0 =>
  obtain ⟨E',h6,h7⟩:∃E',Sat ds' n E0 ρ0 w0 ρ1 E' τ0 a' W1/\∀b x,τ0.bx.getD b none=some x->(E' b).2≠0->¬ T (E' b).1:=by
   rcases hτ0 with rfl | h5
   ·exact⟨E,hs3,hTb0⟩
   ·exact hs3.zS h5 hTb0
  refine⟨Nat.le_refl _,ρ1,E',_,hH0,h6,RO.le_refl _,⟨fun k hk=>hTρ k (hk.imp (hBk k) id),fun b x hx hk ht=>h7 b x hx hk (ht.imp (hBk _) id),fun k hk=>⟨hTlt k (.inl (hBk k hk)),hTown k (.inl (hBk k hk)),?_⟩⟩,hL1⟩;rintro rfl;exact hlT0 (hBk _ hk)
 case hround =>
  rintro ρI TI i x ys W hx ⟨hsz,ρ',E',τ,hhd,hsat,hle',⟨hTρ',hTb',hTI⟩,hlW⟩ hys _;obtain ⟨hxl,htree⟩:=hxs x (List.mem_of_getElem? hx);have hk:=hround i x τ hx hhd;split at hk
  case isFalse=>exact hk.elim
  rename_i hlv;simp only[Bool.and_eq_true,decide_eq_true_eq] at hlv;obtain ⟨hlv1,hnle⟩:=hlv;have hlv2:=hlv1;simp only[yE,Bool.and_eq_true,List.all_eq_true] at hlv2;have hysl:ys.size=ps.size:=by rw[<- hys.1,hxl];simp
  have htm:a'.tmps=a.tmps:=by rw[ha']
  have hyr:=run_yield (P:=P) (args:=ys) hlW (by rw[hrec];exact hysl);rw[hrec] at hyr;refine⟨fn,_,assign,body,hyr,roundIn_of_wpIn (F:=Fence.wide) trivial ?_⟩;have hz1:τ.sl.length=a.tmps.size:=by rw[hsat.sz,htm]
  obtain ⟨v1,v2⟩:=Ii (ρ:=ρ') (E:=some E') ps.toList x ys.toList τ.sl a.tmps hz1 (by rw[hys.1];simp) (fun j=>by
   have:=((hys.2 j).any (some E')).mono hle';rw[<- jj] at this;exact this) (fun t=>by have:=hsat.sl t;rw[htm] at this;exact this) hxl.symm
  have hfold:(ps.zip ys).foldl (fun tmps (t,a)=>tmps.setIfInBounds t a) a.tmps=(ps.toList.zip ys.toList).foldl (fun t q=>t.setIfInBounds q.1 q.2) a.tmps:=by
   rw[<- Array.foldl_toList,Array.toList_zip]
  rw[<- hfold] at v1 v2;have hrd:=NF (hA l) (hB l) na hsat hlv1 hnle hlW (by rw[hrec]) hlo (T:=fun k=>TI k\/k=l) (.inr rfl) (fun k hk=>hk.elim (fun h=>(hTI k h).1) (fun h=>by rw[h];exact(Array.getElem?_eq_some_iff.1 hlW).1)) hTρ' hTb' (sl:=j6 τ.sl ps.toList x) (by rw[Wg,v1,hz1]) v2 (fun b hb=>hlv2.1 b (NK _ _ _ hb htree)) (by
   have:=hk;simp only[List.length_append,List.length_replicate,Wg,Nat.add_sub_cancel] at this;rw[Wg];exact this)
  refine wpIn_mono hrd ?_;intro e a1 w1 he;cases e with
  |normal =>
   obtain ⟨w2,hb,hbody⟩:=he;refine⟨w2,hb,wpIn_mono hbody ?_⟩;rintro e a3 w3 ⟨ex,ρ3,E3,Z3,rfl,hk3,hleft⟩;have hloop:=hleft.loop;rw[hrec] at hloop;have hW3:l<w3.heap.size:=(Array.getElem?_eq_some_iff.1 hloop).1;have keep:∀o,W7 ρI TI W (w3.putObj l o):=fun o =>
    {size:=by rw[World.putObj_size];exact hleft.size
     ro:=fun k o' hk=>by
      have hne:k≠l:=by
       rintro rfl;have:=hle' k o' hk;rw[hTρ' k (.inr rfl)] at this;cases this
      rw[World.putObj_heap_other hne];exact hleft.sat.ro k o' (hleft.le k o' (hle' k o' hk))
     box:=fun k hk=>by
      have hne:k≠l:=(hTI k hk).2.2;rw[World.putObj_heap_other hne];exact hleft.same _ (.inl hk) hne
     os:=hleft.os
     tape:=hleft.tape
     output:=hleft.output }
   have turn:∀o {Z4:St} {E4:Lay},Sat ds' n E0 ρ0 w0 ρ3 E4 Z4 a' w3->(∀b x,Z4.bx.getD b none=some x->(E4 b).2≠0->¬ (TI (E4 b).1\/(E4 b).1=l))->Sat ds' n E0 ρ0 w0 ρ3 E4 Z4 a' (w3.putObj l o):=fun o _ _ h1 h2 =>
    h1.turn (T:=(·=l)) (by rw[World.putObj_size];exact Nat.le_refl _) (fun k _ hk=>World.putObj_heap_other hk) (fun k hk=>hk▸hleft.ro l (.inr rfl)) (fun b x hx hk he=>h2 b x hx hk (.inr he)) (fun k hk=>hk▸hTown l (.inr rfl)) rfl rfl rfl
   have hd:∀(o:Obj) {Z4:St} {E4:Lay},(∀b x,Z4.bx.getD b none=some x->(E4 b).2≠0->¬ (TI (E4 b).1\/(E4 b).1=l))->Hd TI ρ3 E4 Z4 (w3.putObj l o):=fun o _ _ h =>
    ⟨hleft.ro,h,fun k hk=>⟨by have:=(hTI k hk).1;have:=hleft.size;rw[World.putObj_size];omega,(hTI k hk).2⟩⟩
   have hsz3:∀o,W1.heap.size<=(w3.putObj l o).heap.size:=fun o=>by rw[World.putObj_size];exact Nat.le_trans hsz hleft.size
   cases ex with
   |normal =>
    have her:=run_endRound (P:=P) none hloop;refine⟨_,_,her,keep _,.inl ⟨rfl,hsz3 _,?_⟩⟩;obtain ⟨τ',hτ',hH'⟩:=hnext i τ Z3.bx hhd hk3;obtain ⟨E4,k6,k7⟩:∃E4,Sat ds' n E0 ρ0 w0 ρ3 E4 τ' a' w3/\∀b x,τ'.bx.getD b none=some x->(E4 b).2≠0->¬ (TI (E4 b).1\/(E4 b).1=l):=by
     rcases hτ' with rfl | k5
     ·exact⟨E3,hleft.sat,hleft.bx⟩
     ·exact hleft.sat.zS (T:=fun k=>TI k\/k=l) k5 hleft.bx
    refine⟨ρ3,E4,_,hH',turn _ k6 k7,hle'.trans hleft.le,hd _ k7,?_⟩;rw[World.putObj_heap_same hW3,hrec];rfl
   |exit id =>
    have her:=run_endRound (P:=P) (some (.exit id)) hloop;refine⟨_,_,her,keep _,.inr ⟨rfl,hsz3 _,.exit id,_,ρ3,E3,_,rfl,hk3,turn _ hleft.sat hleft.bx,hle'.trans hleft.le,hd _ hleft.bx,?_⟩⟩;rw[World.putObj_heap_same hW3,hrec];rfl
   |ret =>
    have her:=run_endRound (P:=P) (some .ret) hloop;refine⟨_,_,her,keep _,.inr ⟨rfl,hsz3 _,.ret,_,ρ3,E3,_,rfl,hk3,turn _ hleft.sat hleft.bx,hle'.trans hleft.le,hd _ hleft.bx,?_⟩⟩;rw[World.putObj_heap_same hW3,hrec];rfl
  |exit i=>exact he.elim
  |ret=>exact he.elim
  |goto i=>exact he.elim
  |panic i=>exact he.elim
  |outgrown=>exact he.elim
 have henter:∀args w,(callFunc gf args).run P w=.ok (.enter gf args) w:=hSeq.enter;refine⟨l,[{ target:=.collected w.heap.size,args:=#[] }],W1,{ target:=.fn (.func gf) vc,args:=#[.func (.yield l) #[] #[]] },W1,gf,
  #[.func (.yield l) #[] #[]]++vc,W1,?_,?_,fun _ _=>trivial,?_,fun h=>(by cases h),?_⟩
 ·rw[<- hW1,hrec,hl];exact run_enterLoop_outer _ _ _ _ _
 ·simp only[resolve,hge];simp[go_sem]
 ·simp[invoke,go_sem,henter]
 ·refine CallsIn.mono (F:=Fr none) (callsIn_wide.2 hrun) ?_;have hdef:a'={ a with defers:=[{ target:=Target.collected w.heap.size,args:=#[] }]++a.defers }:=by rw[ha'];rfl
  rintro e W2 ⟨⟨v,rfl⟩,ρE,TE,(⟨hsz,ρ',E',τ,hhd,h2,_,⟨h4,h5,_⟩,h6⟩ | ⟨hsz,ex,c,ρ',E',τ,h0,h1,h2,_,⟨h4,h5,_⟩,h6⟩)⟩
  ·refine⟨none,W2.putObj l (.loop { rec .ready none with state:=.exhausted }),by have:=run_endLoop (P:=P) h6 (by rw[hrec];simp);rw[hrec] at this ⊢;exact this,?_⟩;rw[<- hdef];exact hQ .normal a' _ ds' ⟨ρ',E',_,h2.turn (T:=(·=l)) (by rw[World.putObj_size];exact Nat.le_refl _) (fun k _ hk=>World.putObj_heap_other hk) (fun k hk=>hk▸h4 l (.inr rfl)) (fun b x hx hk he=>h5 b x hx hk (.inr he)) (fun k hk=>hk▸hTown l (.inr rfl)) rfl rfl rfl,hend _ hhd⟩
  ·refine⟨some c,W2.putObj l (.loop { rec .done (some c) with state:=.exhausted }),by have:=run_endLoop (P:=P) h6 (by rw[hrec];simp);rw[hrec] at this ⊢;exact this,?_⟩;rw[<- hdef];have hat:At ds' n E0 ρ0 w0 (K ex) a' (W2.putObj l (.loop { rec .done (some c) with state:=.exhausted })):=⟨ρ',E',τ,h2.turn (T:=(·=l)) (by rw[World.putObj_size];exact Nat.le_refl _) (fun k _ hk=>World.putObj_heap_other hk) (fun k hk=>hk▸h4 l (.inr rfl)) (fun b x hx hk he=>h5 b x hx hk (.inr he)) (fun k hk=>hk▸hTown l (.inr rfl)) rfl rfl rfl,h1⟩;cases ex with
   |normal=>cases h0
   |exit id=>cases h0;exact wpIn_exit (hQ (.exit id) a' _ ds' hat)
   |ret=>cases h0;exact wpIn_ret (hQ .ret a' _ ds' hat)
end
end Go.Proofs.YtdeeekgohhkdbaaGreatDoor

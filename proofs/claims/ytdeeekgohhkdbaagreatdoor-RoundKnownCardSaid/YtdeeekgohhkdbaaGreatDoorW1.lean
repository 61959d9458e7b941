/- Code: what the evaluator says of it holds of the machine's run. -/
import Derived.Test.YtdeeekgohhkdbaaGreatDoorM1
namespace Go.Proofs.YtdeeekgohhkdbaaGreatDoor
open Go.RowKit
section
variable {frs:Ways} {il:vH} {ds:List Deferred} {n:Nat} {E0:Lay} {ρ0:RO} {w0:World} {ρ:RO} {E:Lay} {Z:St} {a:Act} {w:World}
theorem JC {cs:List AV} {off:Nat} {v:AV} (hm:qh cs=none) (hv:kV v=none):qh (cs.set off v)=none:=by
 match cs,off with
 |[],_=>rfl
 |[x],0=>exact hv
 |[x],off+1=>exact hm
 |x::y::r,0=>rfl
 |x::y::r,1=>rfl
 |x::y::r,off+2=>rfl
theorem Sat.zA (hs:Sat ds n E0 ρ0 w0 ρ E Z a w) {c off:Nat} {x:Bx} {v:AV} (hx:Z.bx.getD c none=some x) (hm:qh x.cs=none) (hm1:kV v=none) (hv:∀cv e,w.heap[(E c).1]? = some (.cells cv e (0,0))->RvC ρ (lev E x) x.cs cv->Rv ρ (lev E x) v (cv.getD off Go.undef)) :
  Sat ds n E0 ρ0 w0 ρ E ⟨Z.sl,Z.bx.set c (some { x with cs:=x.cs.set off v })⟩ a w:=by
 have hbox:∀b y,(Z.bx.set c (some { x with cs:=x.cs.set off v })).getD b none=some y->∃y',Z.bx.getD b none=some y':=by
  intro b y hy;rw[qc] at hy;split at hy
  ·rename_i h;exact⟨x,by rw[h.1];exact hx⟩
  ·exact⟨y,hy⟩
 have hb:∀b cs,(⟨Z.sl,Z.bx.set c (some { x with cs:=x.cs.set off v })⟩:St).box b=some cs->∃cs',Z.box b=some cs':=by
  intro b cs h;unfold St.box at h;obtain ⟨y,hy,_⟩:=Option.map_eq_some_iff.1 h;obtain ⟨y',hy'⟩:=hbox b y hy;exact⟨y'.cs,by unfold St.box;rw[hy'];rfl⟩
 refine { hs with box:=fun b y hy=>?_,inj:=fun b b' cs cs' h h'=>?_,sep:=fun b cs h=>?_,own:=fun b cs h=>?_ }
 ·have hy2:(Z.bx.set c (some { x with cs:=x.cs.set off v })).getD b none=some y:=hy;rw[qc] at hy2;by_cases hbc:b=c/\c<Z.bx.length
  ·rw[if_pos hbc] at hy2;obtain ⟨rfl,hlt⟩:=hbc;have hy3:=Option.some.inj hy2;subst hy3;obtain ⟨h1,h2⟩:=hs.box b x hx;refine⟨by simpa using h1,h2.imp id fun⟨o,k1,k3⟩=>?_⟩;obtain ⟨cv,e,rfl,k2,k3⟩:=k3.get (xf hm);refine⟨_,k1,.cells (xf (JC hm hm1)) k2 fun j=>?_⟩;show Rv ρ (lev E x) ((x.cs.set off v).getD j .undef) _;rw[y5];split
   ·rename_i hj;rw[hj.1];exact hv cv e k1 k3
   ·exact k3 j
  ·rw[if_neg hbc] at hy2;exact hs.box b y hy2
 ·obtain ⟨c1,e1⟩:=hb b cs h;obtain ⟨c2,e2⟩:=hb b' cs' h';exact hs.inj b b' c1 c2 e1 e2
 ·obtain ⟨c1,e1⟩:=hb b cs h;exact hs.sep b c1 e1
 ·obtain ⟨c1,e1⟩:=hb b cs h;exact hs.own b c1 e1
theorem Xu {off c:Nat} {K:St->Prop} (hs:Sat ds n E0 ρ0 w0 ρ E Z a w) {nm:Bool} (h:vQ nm n off c Z K):∃ρ' Z',Sat ds n E0 ρ0 w0 ρ' E Z' a w/\K Z':=by
 classical
 unfold vQ at h;split at h
 case h_2=>exact⟨ρ,Z,hs,h⟩
 rename_i x hx;split at h
 ·exact⟨ρ,Z,hs,h⟩
 rename_i ha;split at h
 case h_2=>exact⟨ρ,Z,hs,h⟩
 rename_i b o len esz ag hv;split at h
 case h_2=>exact h.elim
 rename_i cs hb;split at h
 case isFalse=>exact h.elim
 rename_i hc;simp only[Bool.and_eq_true,decide_eq_true_eq,Bool.not_eq_true',beq_eq_false_iff_ne] at hc;obtain ⟨⟨hmI,hn⟩,hbc⟩:=hc;have hmN:qh x.cs=none:=by simpa using hmI
 obtain ⟨hok,h⟩:=wM h;have h:=YU h;have hok:=hok _ (List.mem_singleton.2 rfl);obtain ⟨y,hy,-⟩:=XP hb;let ρc:RO:=fun k=>if (E b).2≠0/\(E b).1=k then w.heap[k]? else ρ k
 have hX:∀k,(E b).2≠0/\(E b).1=k->ρ k=none:=by
  rintro k ⟨hk,rfl⟩;exact hs.sep b _ (yu hy) hk
 have hlec:ρ.le ρc:=by
  intro k o hk;show (if _ then _ else ρ k)=_;rw[if_neg (fun h=>by rw[hX k h] at hk;cases hk)];exact hk
 have hget:∀b' x',(Z.bx.set b none).getD b' none=some x'->b'≠b/\Z.bx.getD b' none=some x':=by
  intro b' x' hg;rw[qc] at hg;by_cases hne:b'=b/\b<Z.bx.length
  ·rw[if_pos hne] at hg;cases hg
  ·rw[if_neg hne] at hg;refine⟨fun e=>hne ⟨e,?_⟩,hg⟩;rw[<- e];exact wE hg
 have hnone:(Z.bx.set b none).getD b none=none:=by
  cases h:(Z.bx.set b none).getD b none with
  |none=>rfl
  |some y=>exact absurd rfl (hget b y h).1
 have hsat:=hs.called (B:=[]) (bx':=Z.bx.set b none) (ρn:=ρc) (w':=w)
  (fun b' x' h=>.inl ⟨by simp,(hget b' x' h).2⟩) hlec ?_ ?_ (fun _ _ _=>rfl) (Nat.le_refl _) rfl rfl rfl (by simp)
 ·refine⟨ρc,_,Sat.zA (Z:=⟨Z.sl,Z.bx.set b none⟩) (c:=c) (x:=x) (off:=off) hsat ?_ hmN rfl ?_,h⟩
  ·show (Z.bx.set b none).getD c none=some x;rw[qc,if_neg (fun h=>hbc h.1.symm)];exact hx
  ·intro cv e he hcv;have hl:lev E x=some E:=by unfold lev;rw[if_neg ha]
   rw[hl];have h2:=hs.box c x hx;have hrv:Rv ρ (some E) (.aslc b o len esz ag) (cv.getD off Go.undef):=by
    rcases h2.blk with h0 | ⟨o',k1,k3⟩
    ·have hz:=h2.len;rw[h0] at hz;have:x.cs=[]:=List.length_eq_zero_iff.1 (by omega);rw[this] at hv;simp at hv
    ·obtain ⟨cv',e',he',k2,k4⟩:=k3.get (xf hmN);rw[k1,he'] at he;cases he;have:=k4 off;rw[hl,hv] at this;exact this
   have hsn:=hs.snap (ρc:=ρc) hlec (snaps:=[b]) (fun b' x' hb' hx' hk=>?_) hrv (fun q hq=>?_)
   ·simpa only[AV.snap,hb] using hsn
   ·rw[List.mem_singleton.1 hb'] at *;show (if _ then _ else _)=_;rw[if_pos ⟨hk,rfl⟩]
   ·simp only[AV.zf,List.mem_singleton] at hq;subst hq;exact⟨List.mem_singleton.2 rfl,hok⟩
 ·intro k o hk;simp only[ρc] at hk;split at hk
  ·exact hk
  ·exact hs.ro k o hk
 ·intro k o hk h0;simp only[ρc] at hk;split at hk
  ·rename_i h;exact .inr ⟨b,y,hy,h.1,h.2,by simp,hnone,hn⟩
  ·rw[h0] at hk;cases hk
theorem Rv.yf {ρ:RO} {E:Option Lay} {m:Nat} {es:List AV} {cv:Value} (hv:Rv ρ E (.slc m es) cv):Rv ρ E (.slc 4 es) cv:=by
 generalize hg:AV.slc m es=g at hv;cases hv with
 |nilslc E m=>cases hg;exact .nilslc E 4
 |eslc E m a hm=>cases hg;exact .eslc E 4 a (by simp)
 |slc E m es b o cap k c hm hcap h2 hk hc h=>cases hg;exact .slc E 4 _ b o cap k c (by simp) hcap (by simp) hk hc h
 |_=>cases hg
theorem OX {off c:Nat} {K:St->Prop} (hs:Sat ds n E0 ρ0 w0 ρ E Z a w) (h:TZ off c Z K):∃ρ' Z',Sat ds n E0 ρ0 w0 ρ' E Z' a w/\K Z':=by
 unfold TZ at h;split at h
 case h_2=>exact⟨ρ,Z,hs,h⟩
 rename_i x hx;split at h
 ·exact⟨ρ,Z,hs,h⟩
 rename_i ha;simp only[Bool.or_eq_true,not_or,Bool.not_eq_true] at ha;have hmN:qh x.cs=none:=by simpa using ha.2
 have cell:∀v:AV,x.cs.getD off .undef=v->v≠.undef->∀cv e,w.heap[(E c).1]? = some (.cells cv e (0,0))->Rv ρ (lev E x) v (cv.getD off Go.undef):=by
  intro v hv hne cv e he;have h2:=hs.box c x hx;rcases h2.blk with h0 | ⟨o',k1,k3⟩
  ·have hz:=h2.len;rw[h0] at hz;have:x.cs=[]:=List.length_eq_zero_iff.1 (by omega);rw[this] at hv;exact absurd hv.symm hne
  ·obtain ⟨cv',e',he',k2,k4⟩:=k3.get (xf hmN);rw[k1,he'] at he;cases he;have:=k4 off;rw[hv] at this;exact this
 split at h
 ·rename_i m es hv;obtain ⟨v,r,rfl,h⟩:=h;exact⟨ρ,_,Sat.zA (c:=c) (x:=x) (off:=off) hs hx hmN rfl fun cv e he hcv=>(cell _ hv (by simp) cv e he).yf,h⟩
 ·rename_i b o len esz ag hv;obtain ⟨k,rfl,h⟩:=h;exact⟨ρ,_,Sat.zA (c:=c) (x:=x) (off:=off) hs hx hmN rfl fun cv e he hcv=>cell _ hv (by simp) cv e he,h⟩
 ·exact⟨ρ,Z,hs,h⟩
theorem HQ {i:Nat} {F:Nat->Prop}:∀ {k:Nat},QK (i:Int) F k->i<k->F i:=by
 intro k;induction k with
 |zero=>intro _ h;omega
 |succ k ih =>
  intro h hi;by_cases e:i=k
  ·exact e▸h.1 (by rw[e])
  ·exact ih h.2 (by omega)
theorem kC:∀ {ts:List Nat} {ρ:RO} {Z:St} {K:St->Prop},Sat ds n E0 ρ0 w0 ρ E Z a w->qp n ts Z K->∃ρ' Z',Sat ds n E0 ρ0 w0 ρ' E Z' a w/\K Z':=by
 intro ts;induction ts with
 |nil=>intro ρ Z K hs h;exact⟨ρ,Z,hs,h⟩
 |cons t r ih =>
  intro ρ Z K hs h;simp only[qp] at h;have f1:∀ {nm:Bool} {t:Nat} {K':St->Prop},(∀ {ρ:RO} {Z:St},Sat ds n E0 ρ0 w0 ρ E Z a w->K' Z->∃ρ' Z',Sat ds n E0 ρ0 w0 ρ' E Z' a w/\K Z')->wq nm n t Z K'->∃ρ' Z',Sat ds n E0 ρ0 w0 ρ' E Z' a w/\K Z':=by
   intro nm t K' ih h;simp only[wq] at h;split at h
   ·rename_i hv;split at h
    ·rename_i hb;split at h
     ·rename_i hn;obtain ⟨hok,h⟩:=wM h;have h:=YU h;obtain ⟨ρ',hs'⟩:=hs.freeze hv hb hn (hok _ (List.mem_singleton.2 rfl));exact ih hs' h
     ·exact h.elim
    ·exact h.elim
   ·rename_i hv;split at h
    ·rename_i x hx;split at h
     ·rename_i hc;simp only[Bool.and_eq_true,decide_eq_true_eq,Bool.not_eq_true'] at hc;obtain ⟨ρ',hs'⟩:=hs.zO hv hx hc.1.1.1 (by simpa using hc.1.1.2) hc.2;exact ih hs' h
     ·exact h.elim
    ·exact h.elim
   ·exact ih hs h
  split at h
  ·exact ih hs (PW h).1
  split at h
  ·exact f1 (fun hs' h=>ih hs' h) h
  ·split at h
   case isFalse =>
    split at h
    ·obtain ⟨ρ',Z',hs',h⟩:=Xu hs h;exact ih hs' h
    ·split at h
     ·obtain ⟨ρ',Z',hs',h⟩:=OX hs h;exact ih hs' h
     ·obtain ⟨ρ',Z',hs',h⟩:=Xu hs h;exact ih hs' h
   split at h
   ·exact f1 (fun hs' h=>ih hs' h) h
   simp only[Tj] at h;split at h
   ·rename_i kd j hv;obtain ⟨⟨h0,h1⟩,h⟩:=h;obtain ⟨i,rfl⟩:∃i:Nat,j=(i:Int):=⟨j.toNat,by omega⟩;have hr:=hs.sl (t % 1000000);rw[hv] at hr;generalize hu:a.tmps.getD (t % 1000000) Go.undef=u at hr;cases hr;exact ih (hs.zB (v:=.lit kd i) (by rw[hu];exact .lit ..)) (HQ h (by omega))
   ·exact ih hs h
def WL (P:Program) (R:RO->Prop) (h:Hook) (a b:Code):Prop :=
 ∀ {ro:Option Nat} {ds:List Deferred} {n:Nat} {E0:Lay} {ρ0:RO} {w0:World} {ρ:RO} {E:Lay} {Z:St} {act:Act} {w:World} {K:St->Prop} {Q:Exit->Act->World->Prop},R ρ0->Sat ds n E0 ρ0 w0 ρ E Z act w->UP h Z K ->
  (∀(ρ:RO) (E:Lay) (Z:St) (act:Act) (w:World),Sat ds n E0 ρ0 w0 ρ E Z act w->K Z->(j8 h.cnt b).wpIn (Fr ro) 0 P Q act w)->(Code.seq a b).wpIn (Fr ro) 0 P Q act w
abbrev xu:RO->Prop:=fun _=>True
def qO (P:Program) (w:Ways):(RO->Prop)->Code->Prop
 |R,.seq a b=>(∀h,kF w (jT a)=some h->WL P R h a b)/\qO P w R a/\qO P w R b
 |R,.cond _ a b=>qO P w R a/\qO P w R b
 |_,.rangeFunc _ _ a b=>qO P w xu a/\qO P w xu b
 |R,.block _ b | R,.loop b | R,.scope b=>qO P w R b
 |_,_=>True
theorem xU {P:Program} {w:Ways} (hw:∀id,kF w id=none):∀(R:RO->Prop) (c:Code),qO P w R c:=by
 intro R c;induction c generalizing R with
 |seq a b iha ihb=>exact⟨fun h hh=>by rw[hw] at hh;(cases hh),iha R,ihb R⟩
 |cond c a b iha ihb=>exact⟨iha R,ihb R⟩
 |rangeFunc g ps a b iha ihb=>exact⟨iha _,ihb _⟩
 |block id b ih=>exact ih R
 |loop b ih=>exact ih R
 |scope b ih=>exact ih R
 |_=>trivial
theorem Qe (k:Nat):j8 k (.skip)=.skip:=by cases k<;>rfl
theorem Ux (k:Nat) (id ops d):j8 k (.region id ops d)=.region id ops d:=by cases k<;>rfl
theorem Qb (k:Nat) (c a b):j8 k (.cond c a b)=.cond c a b:=by cases k<;>rfl
theorem Tu (k:Nat) (id b):j8 k (.block id b)=.block id b:=by cases k<;>rfl
theorem Qd (k:Nat) (b):j8 k (.loop b)=.loop b:=by cases k<;>rfl
theorem Qc (k:Nat) (id):j8 k (.exit id)=.exit id:=by cases k<;>rfl
theorem Pf (k:Nat):j8 k (.ret)=.ret:=by cases k<;>rfl
theorem Xm (k:Nat) (g ps a b):j8 k (.rangeFunc g ps a b)=.rangeFunc g ps a b:=by cases k<;>rfl
def Gw (P:Program) (S:Specs) (R:RO->Prop) (ctl:Ctl) (c:Code) (sk:Nat) (ro:Option Nat):Prop :=
 ∀ {ds:List Deferred} {n:Nat} {E0:Lay} {ρ0:RO} {w0:World} (K:Ex->St->Prop) (Q:Exit->Act->World->Prop) (ρ:RO) (E:Lay) (Z:St) (a:Act) (w:World),R ρ0 ->
  (∀(e:Ex) (a:Act) (w:World) (ds':List Deferred),(yJ c=true->ds'=ds)->At ds' n E0 ρ0 w0 (K e) a w->Q e.to a w) ->
  Sat ds n E0 ρ0 w0 ρ E Z a w->qK P S ctl c sk n Z K->(j8 sk c).wpIn (Fr ro) 0 P Q a w
theorem TQ {P:Program} (hm:P.follows .mixedOrders=true) (hil:jH P il) (hI:jF il) {ctl:Ctl}:∀(c:Code) (R:RO->Prop) (_:qO P frs R c) (ro:Option Nat),(ro=none\/yJ c=true)->∀sk,Gw P (yv P frs il) R ctl c sk ro:=by
 intro c;induction c with
 |skip=>intro R _ ro hro sk ds n E0 ρ0 w0 K Q ρ E Z a w hR hQ hs h;rw[Qe];exact wpIn_skip (hQ .normal a w ds (fun _=>rfl) ⟨ρ,E,Z,hs,h⟩)
 |region id ops draw =>
  intro R hall ro hro sk ds n E0 ρ0 w0 K Q ρ E Z a w hR hQ hs h;rw[Ux];cases draw with
  |true =>
   simp only[qK,xk,kq] at h;obtain ⟨ρ,Z,hs,h⟩:=kC hs h;split at h
   ·rename_i hfr;rw[Bool.and_eq_true] at hfr;exact La hil hm (fun a w ⟨ρ,E,Z,hs,h⟩=>hQ .normal a w ds (fun _=>rfl) ⟨ρ,E,_,hs.clean ctl.keep,h⟩) hs hfr.1 hfr.2 h
   ·exact h.elim
  |false =>
   simp only[qK,xk] at h;obtain ⟨ρ,Z,hs,h⟩:=kC hs h;refine wpIn_region ?_;split at h
   ·have:=OK (ro:=ro) (P:=P) hil (ops:=ops) (K:=fun Z=>K .normal (clean ctl.keep Z)) (Q:=Q) (fun a w ⟨ρ,E,Z,hs,h⟩=>hQ .normal a w ds (fun _=>rfl) ⟨ρ,E,_,hs.clean ctl.keep,h⟩) ops.toList 0 none ρ E Z a w rfl hs trivial h;rw[List.range_eq_range'];simpa using this
   have:=MU (ro:=ro) (P:=P) hil (ops:=ops) (K:=fun Z=>K .normal (clean ctl.keep Z)) (Q:=Q) (fun a w ⟨ρ,E,Z,hs,h⟩=>hQ .normal a w ds (fun _=>rfl) ⟨ρ,E,_,hs.clean ctl.keep,h⟩) ops.toList 0 ρ E Z a w rfl hs h;rw[List.range_eq_range'];simpa using this
 |seq x y ihx ihy =>
  intro R hall ro hro sk ds n E0 ρ0 w0 K Q ρ E Z a w hR hQ hs h;have hx:ro=none\/yJ x=true:=hro.imp id fun h=>by simp only[yJ,Bool.and_eq_true] at h;exact h.1
  have hy:ro=none\/yJ y=true:=hro.imp id fun h=>by simp only[yJ,Bool.and_eq_true] at h;exact h.2
  have both:∀ {ds' ds'':List Deferred},(yJ x=true->ds'=ds)->(yJ y=true->ds''=ds')->yJ (.seq x y)=true->ds''=ds:=fun h1 h2 h=>by
   simp only[yJ,Bool.and_eq_true] at h;rw[h2 h.2,h1 h.1]
  have fst:∀ {ds':List Deferred},(yJ x=true->ds'=ds)->yJ (.seq x y)=true->ds'=ds:=fun h1 h=>by
   simp only[yJ,Bool.and_eq_true] at h;exact h1 h.1
  obtain ⟨hook,hax,hay⟩:=hall;simp only[qK] at h;by_cases hsk:sk≠0
  ·rw[if_pos hsk] at h;obtain ⟨k,rfl⟩:∃k,sk=k+1:=⟨sk-1,by omega⟩;exact ihy R hay ro hy k K Q ρ E Z a w hR (fun e a w ds' h2 hat=>hQ e a w ds' (fun g=>by simp only[yJ,Bool.and_eq_true] at g;exact h2 g.2) hat) hs h
  rw[if_neg hsk] at h;have hsk:sk=0:=by omega
  subst hsk;show (Code.seq x y).wpIn (Fr ro) 0 P Q a w;split at h
  ·rename_i hk hho;split at h
   case isFalse=>exact h.elim
   exact hook _ hho hR hs h fun ρ E Z a w hs h=>ihy R hay ro hy _ K Q ρ E Z a w hR (fun e a w ds' h2 hat=>hQ e a w ds' (fun g=>by simp only[yJ,Bool.and_eq_true] at g;exact h2 g.2) hat) hs h
  split at h
  ·refine wpIn_seq (ihx R hax ro hx 0 _ _ ρ E Z a w hR ?_ hs (Lw (S:=yv P frs il) hI h));rintro e a w ds' hds ⟨ρ,E,Z,hs,h⟩;cases e with
   |normal =>
    obtain ⟨ρ,Z,hs,Z',hw,h⟩:=kC hs h;obtain ⟨E',hs'⟩:=hs.weaken hw;exact ihy R hay ro hy 0 K Q ρ E' Z' a w hR (fun e a w ds'' h2 hat=>hQ e a w ds'' (both hds h2) hat) hs' h
   |exit id=>exact hQ (.exit id) a w ds' (fst hds) ⟨ρ,E,Z,hs,h⟩
   |ret=>exact hQ .ret a w ds' (fst hds) ⟨ρ,E,Z,hs,h⟩
  refine wpIn_seq (ihx R hax ro hx 0 _ _ ρ E Z a w hR ?_ hs h);rintro e a w ds' hds ⟨ρ,E,Z,hs,h⟩;cases e with
  |normal=>exact ihy R hay ro hy 0 K Q ρ E Z a w hR (fun e a w ds'' h2 hat=>hQ e a w ds'' (both hds h2) hat) hs h
  |exit id=>exact hQ (.exit id) a w ds' (fst hds) ⟨ρ,E,Z,hs,h⟩
  |ret=>exact hQ .ret a w ds' (fst hds) ⟨ρ,E,Z,hs,h⟩
 |cond c x y ihx ihy =>
  intro R hall ro hro sk ds n E0 ρ0 w0 K Q ρ E Z a w hR hQ hs h;rw[Qb];have hx:ro=none\/yJ x=true:=hro.imp id fun h=>by simp only[yJ,Bool.and_eq_true] at h;exact h.1
  have hy:ro=none\/yJ y=true:=hro.imp id fun h=>by simp only[yJ,Bool.and_eq_true] at h;exact h.2
  have qx:∀(e:Ex) (a:Act) (w:World) (ds':List Deferred),(yJ x=true->ds'=ds)->At ds' n E0 ρ0 w0 (K e) a w->Q e.to a w:=fun e a w ds' h1 hat=>hQ e a w ds' (fun h=>by simp only[yJ,Bool.and_eq_true] at h;exact h1 h.1) hat
  have qy:∀(e:Ex) (a:Act) (w:World) (ds':List Deferred),(yJ y=true->ds'=ds)->At ds' n E0 ρ0 w0 (K e) a w->Q e.to a w:=fun e a w ds' h1 hat=>hQ e a w ds' (fun h=>by simp only[yJ,Bool.and_eq_true] at h;exact h1 h.2) hat
  have hc:=hs.eval c;simp only[qK] at h;split at h
  ·rename_i hh;rw[hh] at hc;generalize hcc:a.eval c=u at hc;cases hc;exact wpIn_cond_true hcc (ihx R hall.1 ro hx 0 K Q ρ E Z a w hR qx hs h)
  ·rename_i hh;rw[hh] at hc;generalize hcc:a.eval c=u at hc;cases hc;exact wpIn_cond_false hcc (ihy R hall.2 ro hy 0 K Q ρ E Z a w hR qy hs h)
  ·rename_i b hh;rw[hh] at hc;generalize hcc:a.eval c=u at hc;cases hc;exact wpIn_cond_split hcc (fun hb=>ihx R hall.1 ro hx 0 K Q ρ E Z a w hR qx hs (h.1 hb)) (fun hb=>ihy R hall.2 ro hy 0 K Q ρ E Z a w hR qy hs (h.2 hb))
  ·exact h.elim
 |block id b ih =>
  intro R hall ro hro sk ds n E0 ρ0 w0 K Q ρ E Z a w hR hQ hs h;rw[Tu];refine wpIn_block (ih R hall ro hro 0 _ _ ρ E Z a w hR ?_ hs h);rintro e a w ds' hds ⟨ρ,E,Z,hs,h⟩;cases e with
  |normal=>exact hQ .normal a w ds' hds ⟨ρ,E,Z,hs,h⟩
  |exit i =>
   simp only[Ex.to,Exit.inBlock];split
   ·rename_i hi;simp only[hi,if_true] at h;exact hQ .normal a w ds' hds ⟨ρ,E,Z,hs,h⟩
   ·rename_i hi;simp only[hi,if_false] at h;exact hQ (.exit i) a w ds' hds ⟨ρ,E,Z,hs,h⟩
  |ret=>exact hQ .ret a w ds' hds ⟨ρ,E,Z,hs,h⟩
 |loop b ih =>
  intro R hall ro hro sk ds n E0 ρ0 w0 K Q ρ E Z a w hR hQ hs h;rw[Qd];simp only[qK] at h;split at h
  case h_2 =>
   refine wpIn_loop_rounds 8 ?_;have key:∀(m:Nat) (ρ:RO) (E':Lay) (Z':St) (a:Act) (w:World) (ds':List Deferred),(yJ b=true->ds'=ds)->Sat ds' n E0 ρ0 w0 ρ E' Z' a w->PG (qK P (yv P frs il) ctl b 0 n) m Z' K->Code.roundsIn (Fr ro) 0 P b Q m a w:=by
    intro m;induction m with
    |zero=>intro ρ E' Z' a w ds' _ _ h;exact h.elim
    |succ m ihm =>
     intro ρ E' Z' a w ds' hds hs' h;rw[roundsIn_succ];refine ih R hall ro hro 0 _ _ ρ E' Z' a w hR ?_ hs' h;rintro e a w ds'' hds' ⟨ρ,E,Z,hs,h⟩;have hds2:yJ b=true->ds''=ds:=fun h=>by rw[hds' h,hds h]
     cases e with
     |normal=>exact ihm ρ E Z a w ds'' hds2 hs h
     |exit i=>exact hQ (.exit i) a w ds'' hds2 ⟨ρ,E,Z,hs,h⟩
     |ret=>exact hQ .ret a w ds'' hds2 ⟨ρ,E,Z,hs,h⟩
   exact key 8 ρ E Z a w ds (fun _=>rfl) hs h
  obtain ⟨Z',hw,m,h⟩:=Nr (S:=yv P frs il) hI h;obtain ⟨E',hs'⟩:=hs.weaken hw;refine wpIn_loop_rounds m ?_;clear hw hs;have key:∀(m:Nat) (ρ:RO) (E':Lay) (Z':St) (a:Act) (w:World) (ds':List Deferred),(yJ b=true->ds'=ds)->Sat ds' n E0 ρ0 w0 ρ E' Z' a w->Sl n (awp P (yv P frs il) n ctl b) m Z' K->Code.roundsIn (Fr ro) 0 P b Q m a w:=by
   intro m;induction m with
   |zero=>intro ρ E' Z' a w ds' _ _ h;exact h.elim
   |succ m ihm =>
    intro ρ E' Z' a w ds' hds hs' h;rw[roundsIn_succ];refine ih R hall ro hro 0 _ _ ρ E' Z' a w hR ?_ hs' h;rintro e a w ds'' hds' ⟨ρ,E,Z,hs,h⟩;have hds2:yJ b=true->ds''=ds:=fun h=>by rw[hds' h,hds h]
    cases e with
    |normal =>
     obtain ⟨Z'',hw,h⟩:=h;obtain ⟨E'',hs⟩:=hs.weaken hw;exact ihm ρ E'' Z'' a w ds'' hds2 hs h
    |exit i=>exact hQ (.exit i) a w ds'' hds2 ⟨ρ,E,Z,hs,h⟩
    |ret=>exact hQ .ret a w ds'' hds2 ⟨ρ,E,Z,hs,h⟩
  exact key m ρ E' Z' a w ds (fun _=>rfl) hs' h
 |exit id=>intro R _ ro hro sk ds n E0 ρ0 w0 K Q ρ E Z a w hR hQ hs h;rw[Qc];exact wpIn_exit (hQ (.exit id) a w ds (fun _=>rfl) ⟨ρ,E,Z,hs,h⟩)
 |ret=>intro R _ ro hro sk ds n E0 ρ0 w0 K Q ρ E Z a w hR hQ hs h;rw[Pf];exact wpIn_ret (hQ .ret a w ds (fun _=>rfl) ⟨ρ,E,Z,hs,h⟩)
 |rangeFunc g ps x y ihx ihy =>
  intro R hall ro hro sk ds n E0 ρ0 w0 K Q ρ E Z a w hR hQ hs h;rw[Xm];rcases hro with rfl | hro
  case inr=>cases hro
  simp only[qK] at h;split at h
  case h_2=>exact h.elim
  rename_i p hp;split at h
  case isFalse=>exact h.elim
  rename_i hnr;rw[Bool.and_eq_true] at hnr;exact NC (S:=yv P frs il) (ctl:=ctl) (fun l _ _ _ _ _ K Q ρ E Z a w hQ hs h=>ihx xu hall.1 (some l) (.inr hnr.1) 0 K Q ρ E Z a w trivial hQ hs h) (fun l _ _ _ _ _ K Q ρ E Z a w hQ hs h=>ihy xu hall.2 (some l) (.inr hnr.2) 0 K Q ρ E Z a w trivial hQ hs h) hnr.1 (fun _ _ _ _ h=>h) (fun e a w ds' hat=>hQ e a w ds' (fun h=>by cases h) hat) hs h
 |scope b _=>intro R _ ro hro sk ds n E0 ρ0 w0 K Q ρ E Z a w hR hQ hs h;exact h.elim
 |label l=>intro R _ ro hro sk ds n E0 ρ0 w0 K Q ρ E Z a w hR hQ hs h;exact h.elim
 |goto l=>intro R _ ro hro sk ds n E0 ρ0 w0 K Q ρ E Z a w hR hQ hs h;exact h.elim
 |refuse s=>intro R _ ro hro sk ds n E0 ρ0 w0 K Q ρ E Z a w hR hQ hs h;exact h.elim
theorem MW {P:Program} (hm:P.follows .mixedOrders=true) (hil:jH P il) (hI:jF il) {ctl:Ctl} {R:RO->Prop} (hR:R ρ0) (c:Code) (hall:qO P frs R c) (K:Ex->St->Prop) (Q:Exit->Act->World->Prop) (ρ:RO) (E:Lay) (Z:St) (a:Act) (w:World)
  (hQ:∀(e:Ex) (a:Act) (w:World) (ds':List Deferred),(yJ c=true->ds'=ds)->At ds' n E0 ρ0 w0 (K e) a w->Q e.to a w) (hs:Sat ds n E0 ρ0 w0 ρ E Z a w) (h:awp P (yv P frs il) n ctl c Z K):c.wpIn (Fr none) 0 P Q a w :=
 TQ hm hil hI c R hall none (.inl rfl) 0 K Q ρ E Z a w hR hQ hs h
theorem Q0 {P:Program} (hm:P.follows .mixedOrders=true) (hil:jH P il) (hI:jF il) {ctl:Ctl} (c:Code) (hall:qO P frs xu c) (ro:Option Nat) (hro:ro=none\/yJ c=true):QT P (yv P frs il) ctl c ro :=
 fun K Q ρ E Z a w hQ hs h=>TQ hm hil hI c xu hall ro hro 0 K Q ρ E Z a w trivial hQ hs h
end
end Go.Proofs.YtdeeekgohhkdbaaGreatDoor

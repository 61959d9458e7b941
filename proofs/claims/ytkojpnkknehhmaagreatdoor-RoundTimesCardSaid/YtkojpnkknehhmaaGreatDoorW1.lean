/- Code: what the evaluator says of it holds of the machine's run. -/
import Derived.Test.YtkojpnkknehhmaaGreatDoorM1
namespace Go.Proofs.YtkojpnkknehhmaaGreatDoor
open Go.RowKit
section
variable {frs:Ways} {il:vZ} {ds:List Deferred} {n:Nat} {μ0:Lay} {ρ0:RO} {w0:World} {ρ:RO} {μ:Lay} {σ:St} {a:Act} {w:World}
theorem Sat.freeze (hs:Sat ds n μ0 ρ0 w0 ρ μ σ a w) {t b:Nat} {off len esz:Nat} {ag:Bool} {cs:List AV} (hv:σ.sl.getD t .undef=.aslc b off len esz ag) (hb:σ.zg b=some cs) (hn:n<=b)
  (hok:okA σ.zg (b,off+len*esz,esz,ag)):∃ρ',Sat ds n μ0 ρ0 w0 ρ' μ ⟨σ.sl.set t (.slc 3 (chunks esz ag len (cs.drop off))),σ.bx.set b none⟩ a w:=by
 classical
 obtain ⟨x,hx,-⟩:=XD hb;let ρc:RO:=fun k=>if (μ b).2≠0/\(μ b).1=k then w.heap[k]? else ρ k
 have hX:∀k,(μ b).2≠0/\(μ b).1=k->ρ k=none:=by
  rintro k ⟨hk,rfl⟩;exact hs.sep b _ (yi hx) hk
 have hlec:ρ.le ρc:=by
  intro k o hk;show (if _ then _ else ρ k)=_;rw[if_neg (fun h=>by rw[hX k h] at hk;cases hk)];exact hk
 have hget:∀b' x',(σ.bx.set b none).getD b' none=some x'->b'≠b/\σ.bx.getD b' none=some x':=by
  intro b' x' h;by_cases hbb:b'=b
  ·subst hbb;exfalso;simp only[List.getD,List.getElem?_set_self'] at h;cases hg:σ.bx[b']? with
   |none=>simp[hg] at h
   |some y=>simp[hg] at h
  ·refine⟨hbb,?_⟩;simpa only[List.getD,List.getElem?_set_ne (Ne.symm hbb)] using h
 have hnone:(σ.bx.set b none).getD b none=none:=by
  cases h:(σ.bx.set b none).getD b none with
  |none=>rfl
  |some y=>exact absurd rfl (hget b y h).1
 have hsat:=hs.called (B:=[]) (bx':=σ.bx.set b none) (ρn:=ρc) (w':=w)
  (fun b' x' h=>.inl ⟨by simp,(hget b' x' h).2⟩) hlec ?_ ?_ (fun _ _ _=>rfl) (Nat.le_refl _) rfl rfl rfl (by simp)
 ·refine⟨ρc,{ hsat with sz:=by simpa using hsat.sz,sl:=fun i=>?_ }⟩;show Rv ρc (some μ) ((σ.sl.set t _).getD i .undef) _;rw[qm];split
  ·rename_i h;rw[h.1];have:=hs.sl t;rw[hv] at this;have hsn:=hs.snap (ρc:=ρc) hlec (snaps:=[b]) (fun b' x' hb' hx' hk=>?_) this (fun q hq=>?_)
   ·simpa only[AV.snap,hb] using hsn
   ·rw[List.mem_singleton.1 hb'] at *;show (if _ then _ else _)=_;rw[if_pos ⟨hk,rfl⟩]
   ·simp only[AV.zf,List.mem_singleton] at hq;subst hq;exact⟨List.mem_singleton.2 rfl,hok⟩
  ·exact hsat.sl i
 ·intro k o hk;simp only[ρc] at hk;split at hk
  ·exact hk
  ·exact hs.ro k o hk
 ·intro k o hk h0;simp only[ρc] at hk;split at hk
  ·rename_i h;exact .inr ⟨b,x,hx,h.1,h.2,by simp,hnone,hn⟩
  ·rw[h0] at hk;cases hk
theorem Sat.zR (hs:Sat ds n μ0 ρ0 w0 ρ μ σ a w) {t b off:Nat} {x:Bx} (hv:σ.sl.getD t .undef=.ref b off) (hx:σ.bx.getD b none=some x) (ha:x.arr=false) (hm:ql x.cs=none) (hn:n<=b) :
  ∃ρ',Sat ds n μ0 ρ0 w0 ρ' μ ⟨σ.sl.set t (.eptr x.cs off),σ.bx.set b none⟩ a w:=by
 classical
 let ρc:RO:=fun k=>if (μ b).2≠0/\(μ b).1=k then w.heap[k]? else ρ k
 have hX:∀k,(μ b).2≠0/\(μ b).1=k->ρ k=none:=by
  rintro k ⟨hk,rfl⟩;exact hs.sep b _ (yi hx) hk
 have hlec:ρ.le ρc:=by
  intro k o hk;show (if _ then _ else ρ k)=_;rw[if_neg (fun h=>by rw[hX k h] at hk;cases hk)];exact hk
 have hget:∀b' x',(σ.bx.set b none).getD b' none=some x'->b'≠b/\σ.bx.getD b' none=some x':=by
  intro b' x' h;by_cases hbb:b'=b
  ·subst hbb;exfalso;simp only[List.getD,List.getElem?_set_self'] at h;cases hg:σ.bx[b']? with
   |none=>simp[hg] at h
   |some y=>simp[hg] at h
  ·refine⟨hbb,?_⟩;simpa only[List.getD,List.getElem?_set_ne (Ne.symm hbb)] using h
 have hnone:(σ.bx.set b none).getD b none=none:=by
  cases h:(σ.bx.set b none).getD b none with
  |none=>rfl
  |some y=>exact absurd rfl (hget b y h).1
 have hsat:=hs.called (B:=[]) (bx':=σ.bx.set b none) (ρn:=ρc) (w':=w)
  (fun b' x' h=>.inl ⟨by simp,(hget b' x' h).2⟩) hlec ?_ ?_ (fun _ _ _=>rfl) (Nat.le_refl _) rfl rfl rfl (by simp)
 ·refine⟨ρc,{ hsat with sz:=by simpa using hsat.sz,sl:=fun i=>?_ }⟩;show Rv ρc (some μ) ((σ.sl.set t _).getD i .undef) _;rw[qm];split
  ·rename_i h;rw[h.1];have hp:=hs.sl t;rw[hv] at hp;generalize a.tmps.getD t Go.undef=u at hp ⊢;obtain rfl:u=.pointer (some ⟨(μ b).1,off,none⟩):=by
    generalize hg:(some μ:Option Lay)=o at hp;cases hp with
    |ref μ' _ _=>cases hg;rfl
   obtain ⟨h1,h2⟩:=hs.box b x hx;have hlev:lev μ x=some μ:=by unfold lev;rw[if_neg (by simp[ha])]
   by_cases hk:(μ b).2=0
   ·have h0:x.cs=[]:=List.length_eq_zero_iff.1 (by omega);have:=Rv.eptr (ρ:=ρc) (some μ) [] (μ b).1 0 off (fun _=>Go.undef) (fun j hj=>by simp at hj) (fun j=>by cases j<;>exact .undef ..);rw[h0];simpa using this
   ·rcases h2 with h2 | ⟨o,k1,k3⟩
    ·exact absurd h2 hk
    ·obtain ⟨cv,e,rfl,k2,k4⟩:=k3.get (uZ hm);have:=Rv.eptr (ρ:=ρc) (some μ) x.cs (μ b).1 0 off (fun j=>cv.getD j Go.undef) (fun j hj=>?_) (fun j=>by have:=k4 j;rw[hlev] at this;exact this.mono hlec)
     ·simpa using this
     ·unfold RO.cell;have:ρc (μ b).1=some (.cells cv e (0,0)):=by
       show (if _ then _ else _)=_;rw[if_pos ⟨hk,rfl⟩];exact k1
      rw[this];simp only[Nat.zero_add];rw[Array.getD,dif_pos (by omega)];exact Array.getElem?_eq_getElem (by omega)
  ·exact hsat.sl i
 ·intro k o hk;simp only[ρc] at hk;split at hk
  ·exact hk
  ·exact hs.ro k o hk
 ·intro k o hk h0;simp only[ρc] at hk;split at hk
  ·rename_i h;exact .inr ⟨b,x,hx,h.1,h.2,by simp,hnone,hn⟩
  ·rw[h0] at hk;cases hk
theorem KZ {cs:List AV} {off:Nat} {v:AV} (hm:ql cs=none) (hv:kH v=none):ql (cs.set off v)=none:=by
 match cs,off with
 |[],_=>rfl
 |[x],0=>exact hv
 |[x],off+1=>exact hm
 |x::y::r,0=>rfl
 |x::y::r,1=>rfl
 |x::y::r,off+2=>rfl
theorem Sat.zG (hs:Sat ds n μ0 ρ0 w0 ρ μ σ a w) {c off:Nat} {x:Bx} {v:AV} (hx:σ.bx.getD c none=some x) (hm:ql x.cs=none) (hm1:kH v=none) (hv:∀cv e,w.heap[(μ c).1]? = some (.cells cv e (0,0))->RvC ρ (lev μ x) x.cs cv->Rv ρ (lev μ x) v (cv.getD off Go.undef)) :
  Sat ds n μ0 ρ0 w0 ρ μ ⟨σ.sl,σ.bx.set c (some { x with cs:=x.cs.set off v })⟩ a w:=by
 have hbox:∀b y,(σ.bx.set c (some { x with cs:=x.cs.set off v })).getD b none=some y->∃y',σ.bx.getD b none=some y':=by
  intro b y hy;rw[qo] at hy;split at hy
  ·rename_i h;exact⟨x,by rw[h.1];exact hx⟩
  ·exact⟨y,hy⟩
 have hb:∀b cs,(⟨σ.sl,σ.bx.set c (some { x with cs:=x.cs.set off v })⟩:St).box b=some cs->∃cs',σ.box b=some cs':=by
  intro b cs h;unfold St.box at h;obtain ⟨y,hy,_⟩:=Option.map_eq_some_iff.1 h;obtain ⟨y',hy'⟩:=hbox b y hy;exact⟨y'.cs,by unfold St.box;rw[hy'];rfl⟩
 refine { hs with box:=fun b y hy=>?_,inj:=fun b b' cs cs' h h'=>?_,sep:=fun b cs h=>?_,own:=fun b cs h=>?_ }
 ·have hy2:(σ.bx.set c (some { x with cs:=x.cs.set off v })).getD b none=some y:=hy;rw[qo] at hy2;by_cases hbc:b=c/\c<σ.bx.length
  ·rw[if_pos hbc] at hy2;obtain ⟨rfl,hlt⟩:=hbc;have hy3:=Option.some.inj hy2;subst hy3;obtain ⟨h1,h2⟩:=hs.box b x hx;refine⟨by simpa using h1,h2.imp id fun⟨o,k1,k3⟩=>?_⟩;obtain ⟨cv,e,rfl,k2,k3⟩:=k3.get (uZ hm);refine⟨_,k1,.cells (uZ (KZ hm hm1)) k2 fun j=>?_⟩;show Rv ρ (lev μ x) ((x.cs.set off v).getD j .undef) _;rw[qm];split
   ·rename_i hj;rw[hj.1];exact hv cv e k1 k3
   ·exact k3 j
  ·rw[if_neg hbc] at hy2;exact hs.box b y hy2
 ·obtain ⟨c1,e1⟩:=hb b cs h;obtain ⟨c2,e2⟩:=hb b' cs' h';exact hs.inj b b' c1 c2 e1 e2
 ·obtain ⟨c1,e1⟩:=hb b cs h;exact hs.sep b c1 e1
 ·obtain ⟨c1,e1⟩:=hb b cs h;exact hs.own b c1 e1
theorem uQ {esz:Nat} {ag:Bool} {es:List AV} (h:jT esz ag es):chunks esz ag es.length (es.flatMap AV.cells)=es:=by
 unfold chunks;cases ag with
 |true =>
  simp only[if_true];induction es with
  |nil=>rfl
  |cons x r ih =>
   obtain ⟨c,rfl,hc⟩:=h x (by simp);simp only[List.flatMap_cons,List.length_cons,kf,AV.cells];rw[List.take_append_of_le_length (by omega),List.take_of_length_le (by omega),List.drop_append_of_le_length (by omega),List.drop_of_length_le (by omega),List.nil_append,ih fun v hv=>h v (List.mem_cons_of_mem _ hv)]
 |false =>
  simp only[Bool.false_eq_true,if_false];have:es.flatMap AV.cells=es:=by
   induction es with
   |nil=>rfl
   |cons x r ih =>
    have hx:x.cells=[x]:=h x (by simp);rw[List.flatMap_cons,ih fun v hv=>h v (List.mem_cons_of_mem _ hv),hx];rfl
  rw[this,List.take_of_length_le (Nat.le_refl _)]
theorem UI {nm:Bool} {esz:Nat} {ag:Bool} {len:Nat} {cs:List AV} {K:List AV->Prop} (h:UH nm esz ag len cs K):K (chunks esz ag len cs):=by
 unfold UH at h;split at h
 ·obtain ⟨es,⟨h1,h2,h3⟩,h4⟩:=h;rw[<- h1,<- h2,uQ h3];exact h4
 ·exact h
theorem Xb {off c:Nat} {K:St->Prop} (hs:Sat ds n μ0 ρ0 w0 ρ μ σ a w) {nm:Bool} (h:vF nm n off c σ K):∃ρ' σ',Sat ds n μ0 ρ0 w0 ρ' μ σ' a w/\K σ':=by
 classical
 unfold vF at h;split at h
 case h_2=>exact⟨ρ,σ,hs,h⟩
 rename_i x hx;split at h
 ·exact⟨ρ,σ,hs,h⟩
 rename_i ha;split at h
 case h_2=>exact⟨ρ,σ,hs,h⟩
 rename_i b o len esz ag hv;split at h
 case h_2=>exact h.elim
 rename_i cs hb;split at h
 case isFalse=>exact h.elim
 rename_i hc;simp only[Bool.and_eq_true,decide_eq_true_eq,Bool.not_eq_true',beq_eq_false_iff_ne] at hc;obtain ⟨⟨hmI,hn⟩,hbc⟩:=hc;have hmN:ql x.cs=none:=by simpa using hmI
 obtain ⟨hok,h⟩:=xO h;have h:=UI h;have hok:=hok _ (List.mem_singleton.2 rfl);obtain ⟨y,hy,-⟩:=XD hb;let ρc:RO:=fun k=>if (μ b).2≠0/\(μ b).1=k then w.heap[k]? else ρ k
 have hX:∀k,(μ b).2≠0/\(μ b).1=k->ρ k=none:=by
  rintro k ⟨hk,rfl⟩;exact hs.sep b _ (yi hy) hk
 have hlec:ρ.le ρc:=by
  intro k o hk;show (if _ then _ else ρ k)=_;rw[if_neg (fun h=>by rw[hX k h] at hk;cases hk)];exact hk
 have hget:∀b' x',(σ.bx.set b none).getD b' none=some x'->b'≠b/\σ.bx.getD b' none=some x':=by
  intro b' x' hg;rw[qo] at hg;by_cases hne:b'=b/\b<σ.bx.length
  ·rw[if_pos hne] at hg;cases hg
  ·rw[if_neg hne] at hg;refine⟨fun e=>hne ⟨e,?_⟩,hg⟩;rw[<- e];exact vj hg
 have hnone:(σ.bx.set b none).getD b none=none:=by
  cases h:(σ.bx.set b none).getD b none with
  |none=>rfl
  |some y=>exact absurd rfl (hget b y h).1
 have hsat:=hs.called (B:=[]) (bx':=σ.bx.set b none) (ρn:=ρc) (w':=w)
  (fun b' x' h=>.inl ⟨by simp,(hget b' x' h).2⟩) hlec ?_ ?_ (fun _ _ _=>rfl) (Nat.le_refl _) rfl rfl rfl (by simp)
 ·refine⟨ρc,_,Sat.zG (σ:=⟨σ.sl,σ.bx.set b none⟩) (c:=c) (x:=x) (off:=off) hsat ?_ hmN rfl ?_,h⟩
  ·show (σ.bx.set b none).getD c none=some x;rw[qo,if_neg (fun h=>hbc h.1.symm)];exact hx
  ·intro cv e he hcv;have hl:lev μ x=some μ:=by unfold lev;rw[if_neg ha]
   rw[hl];have h2:=hs.box c x hx;have hrv:Rv ρ (some μ) (.aslc b o len esz ag) (cv.getD off Go.undef):=by
    rcases h2.blk with h0 | ⟨o',k1,k3⟩
    ·have hz:=h2.len;rw[h0] at hz;have:x.cs=[]:=List.length_eq_zero_iff.1 (by omega);rw[this] at hv;simp at hv
    ·obtain ⟨cv',e',he',k2,k4⟩:=k3.get (uZ hmN);rw[k1,he'] at he;cases he;have:=k4 off;rw[hl,hv] at this;exact this
   have hsn:=hs.snap (ρc:=ρc) hlec (snaps:=[b]) (fun b' x' hb' hx' hk=>?_) hrv (fun q hq=>?_)
   ·simpa only[AV.snap,hb] using hsn
   ·rw[List.mem_singleton.1 hb'] at *;show (if _ then _ else _)=_;rw[if_pos ⟨hk,rfl⟩]
   ·simp only[AV.zf,List.mem_singleton] at hq;subst hq;exact⟨List.mem_singleton.2 rfl,hok⟩
 ·intro k o hk;simp only[ρc] at hk;split at hk
  ·exact hk
  ·exact hs.ro k o hk
 ·intro k o hk h0;simp only[ρc] at hk;split at hk
  ·rename_i h;exact .inr ⟨b,y,hy,h.1,h.2,by simp,hnone,hn⟩
  ·rw[h0] at hk;cases hk
theorem Rv.z8 {ρ:RO} {μ:Option Lay} {m:Nat} {es:List AV} {cv:Value} (hv:Rv ρ μ (.slc m es) cv):Rv ρ μ (.slc 4 es) cv:=by
 generalize hg:AV.slc m es=g at hv;cases hv with
 |nilslc μ m=>cases hg;exact .nilslc μ 4
 |eslc μ m a hm=>cases hg;exact .eslc μ 4 a (by simp)
 |slc μ m es b o cap k c hm hcap h2 hk hc h=>cases hg;exact .slc μ 4 _ b o cap k c (by simp) hcap (by simp) hk hc h
 |_=>cases hg
theorem Og {off c:Nat} {K:St->Prop} (hs:Sat ds n μ0 ρ0 w0 ρ μ σ a w) (h:TC off c σ K):∃ρ' σ',Sat ds n μ0 ρ0 w0 ρ' μ σ' a w/\K σ':=by
 unfold TC at h;split at h
 case h_2=>exact⟨ρ,σ,hs,h⟩
 rename_i x hx;split at h
 ·exact⟨ρ,σ,hs,h⟩
 rename_i ha;simp only[Bool.or_eq_true,not_or,Bool.not_eq_true] at ha;have hmN:ql x.cs=none:=by simpa using ha.2
 have cell:∀v:AV,x.cs.getD off .undef=v->v≠.undef->∀cv e,w.heap[(μ c).1]? = some (.cells cv e (0,0))->Rv ρ (lev μ x) v (cv.getD off Go.undef):=by
  intro v hv hne cv e he;have h2:=hs.box c x hx;rcases h2.blk with h0 | ⟨o',k1,k3⟩
  ·have hz:=h2.len;rw[h0] at hz;have:x.cs=[]:=List.length_eq_zero_iff.1 (by omega);rw[this] at hv;exact absurd hv.symm hne
  ·obtain ⟨cv',e',he',k2,k4⟩:=k3.get (uZ hmN);rw[k1,he'] at he;cases he;have:=k4 off;rw[hv] at this;exact this
 split at h
 ·rename_i m es hv;obtain ⟨v,r,rfl,h⟩:=h;exact⟨ρ,_,Sat.zG (c:=c) (x:=x) (off:=off) hs hx hmN rfl fun cv e he hcv=>(cell _ hv (by simp) cv e he).z8,h⟩
 ·rename_i b o len esz ag hv;obtain ⟨k,rfl,h⟩:=h;exact⟨ρ,_,Sat.zG (c:=c) (x:=x) (off:=off) hs hx hmN rfl fun cv e he hcv=>cell _ hv (by simp) cv e he,h⟩
 ·exact⟨ρ,σ,hs,h⟩
theorem I5 {i:Nat} {F:Nat->Prop}:∀ {k:Nat},Qa (i:Int) F k->i<k->F i:=by
 intro k;induction k with
 |zero=>intro _ h;omega
 |succ k ih =>
  intro h hi;by_cases e:i=k
  ·exact e▸h.1 (by rw[e])
  ·exact ih h.2 (by omega)
theorem kj:∀ {ts:List Nat} {ρ:RO} {σ:St} {K:St->Prop},Sat ds n μ0 ρ0 w0 ρ μ σ a w->qp n ts σ K->∃ρ' σ',Sat ds n μ0 ρ0 w0 ρ' μ σ' a w/\K σ':=by
 intro ts;induction ts with
 |nil=>intro ρ σ K hs h;exact⟨ρ,σ,hs,h⟩
 |cons t r ih =>
  intro ρ σ K hs h;simp only[qp] at h;have f1:∀ {nm:Bool} {t:Nat} {K':St->Prop},(∀ {ρ:RO} {σ:St},Sat ds n μ0 ρ0 w0 ρ μ σ a w->K' σ->∃ρ' σ',Sat ds n μ0 ρ0 w0 ρ' μ σ' a w/\K σ')->vE nm n t σ K'->∃ρ' σ',Sat ds n μ0 ρ0 w0 ρ' μ σ' a w/\K σ':=by
   intro nm t K' ih h;simp only[vE] at h;split at h
   ·rename_i hv;split at h
    ·rename_i hb;split at h
     ·rename_i hn;obtain ⟨hok,h⟩:=xO h;have h:=UI h;obtain ⟨ρ',hs'⟩:=hs.freeze hv hb hn (hok _ (List.mem_singleton.2 rfl));exact ih hs' h
     ·exact h.elim
    ·exact h.elim
   ·rename_i hv;split at h
    ·rename_i x hx;split at h
     ·rename_i hc;simp only[Bool.and_eq_true,decide_eq_true_eq,Bool.not_eq_true'] at hc;obtain ⟨ρ',hs'⟩:=hs.zR hv hx hc.1.1.1 (by simpa using hc.1.1.2) hc.2;exact ih hs' h
     ·exact h.elim
    ·exact h.elim
   ·exact ih hs h
  split at h
  ·exact f1 (fun hs' h=>ih hs' h) h
  ·split at h
   case isFalse =>
    split at h
    ·obtain ⟨ρ',σ',hs',h⟩:=Xb hs h;exact ih hs' h
    ·split at h
     ·obtain ⟨ρ',σ',hs',h⟩:=Og hs h;exact ih hs' h
     ·obtain ⟨ρ',σ',hs',h⟩:=Xb hs h;exact ih hs' h
   split at h
   ·exact f1 (fun hs' h=>ih hs' h) h
   simp only[UW] at h;split at h
   ·rename_i kd j hv;obtain ⟨⟨h0,h1⟩,h⟩:=h;obtain ⟨i,rfl⟩:∃i:Nat,j=(i:Int):=⟨j.toNat,by omega⟩;have hr:=hs.sl (t % 1000000);rw[hv] at hr;generalize hu:a.tmps.getD (t % 1000000) Go.undef=u at hr;cases hr;exact ih (hs.zx (v:=.lit kd i) (by rw[hu];exact .lit ..)) (I5 h (by omega))
   ·exact ih hs h
theorem Qt {P:Program} (hm:P.follows .mixedOrders=true) (hil:kG P il) (hI:kF il) {ctl:Ctl}:∀(c:Code) (ro:Option Nat),(ro=none\/yB c=true)->Qk P (yj P frs il) ctl c ro:=by
 intro c;induction c with
 |skip=>intro ro hro ds n μ0 ρ0 w0 K Q ρ μ σ a w hQ hs h;exact wpIn_skip (hQ .normal a w ds (fun _=>rfl) ⟨ρ,μ,σ,hs,h⟩)
 |region id ops draw =>
  intro ro hro ds n μ0 ρ0 w0 K Q ρ μ σ a w hQ hs h;cases draw with
  |true =>
   simp only[awp,qO,wU,jZ] at h;obtain ⟨ρ,σ,hs,h⟩:=kj hs h;split at h
   ·rename_i hfr;rw[Bool.and_eq_true] at hfr;exact Mt hil hm (fun a w ⟨ρ,μ,σ,hs,h⟩=>hQ .normal a w ds (fun _=>rfl) ⟨ρ,μ,_,hs.clean ctl.keep,h⟩) hs hfr.1 hfr.2 h
   ·exact h.elim
  |false =>
   simp only[awp,qO,wU] at h;obtain ⟨ρ,σ,hs,h⟩:=kj hs h;refine wpIn_region ?_;split at h
   ·have:=P6 (ro:=ro) (P:=P) hil (ops:=ops) (K:=fun σ=>K .normal (clean ctl.keep σ)) (Q:=Q) (fun a w ⟨ρ,μ,σ,hs,h⟩=>hQ .normal a w ds (fun _=>rfl) ⟨ρ,μ,_,hs.clean ctl.keep,h⟩) ops.toList 0 none ρ μ σ a w rfl hs trivial h;rw[List.range_eq_range'];simpa using this
   have:=Mg (ro:=ro) (P:=P) hil (ops:=ops) (K:=fun σ=>K .normal (clean ctl.keep σ)) (Q:=Q) (fun a w ⟨ρ,μ,σ,hs,h⟩=>hQ .normal a w ds (fun _=>rfl) ⟨ρ,μ,_,hs.clean ctl.keep,h⟩) ops.toList 0 ρ μ σ a w rfl hs h;rw[List.range_eq_range'];simpa using this
 |seq x y ihx ihy =>
  intro ro hro ds n μ0 ρ0 w0 K Q ρ μ σ a w hQ hs h;have hx:ro=none\/yB x=true:=hro.imp id fun h=>by simp only[yB,Bool.and_eq_true] at h;exact h.1
  have hy:ro=none\/yB y=true:=hro.imp id fun h=>by simp only[yB,Bool.and_eq_true] at h;exact h.2
  have both:∀ {ds' ds'':List Deferred},(yB x=true->ds'=ds)->(yB y=true->ds''=ds')->yB (.seq x y)=true->ds''=ds:=fun h1 h2 h=>by
   simp only[yB,Bool.and_eq_true] at h;rw[h2 h.2,h1 h.1]
  have fst:∀ {ds':List Deferred},(yB x=true->ds'=ds)->yB (.seq x y)=true->ds'=ds:=fun h1 h=>by
   simp only[yB,Bool.and_eq_true] at h;exact h1 h.1
  simp only[awp,qO] at h;split at h
  ·refine wpIn_seq (ihx ro hx _ _ ρ μ σ a w ?_ hs (MR (S:=yj P frs il) hI h));rintro e a w ds' hds ⟨ρ,μ,σ,hs,h⟩;cases e with
   |normal =>
    obtain ⟨ρ,σ,hs,σ',hw,h⟩:=kj hs h;obtain ⟨μ',hs'⟩:=hs.weaken hw;exact ihy ro hy K Q ρ μ' σ' a w (fun e a w ds'' h2 hat=>hQ e a w ds'' (both hds h2) hat) hs' h
   |exit id=>exact hQ (.exit id) a w ds' (fst hds) ⟨ρ,μ,σ,hs,h⟩
   |ret=>exact hQ .ret a w ds' (fst hds) ⟨ρ,μ,σ,hs,h⟩
  refine wpIn_seq (ihx ro hx _ _ ρ μ σ a w ?_ hs h);rintro e a w ds' hds ⟨ρ,μ,σ,hs,h⟩;cases e with
  |normal=>exact ihy ro hy K Q ρ μ σ a w (fun e a w ds'' h2 hat=>hQ e a w ds'' (both hds h2) hat) hs h
  |exit id=>exact hQ (.exit id) a w ds' (fst hds) ⟨ρ,μ,σ,hs,h⟩
  |ret=>exact hQ .ret a w ds' (fst hds) ⟨ρ,μ,σ,hs,h⟩
 |cond c x y ihx ihy =>
  intro ro hro ds n μ0 ρ0 w0 K Q ρ μ σ a w hQ hs h;have hx:ro=none\/yB x=true:=hro.imp id fun h=>by simp only[yB,Bool.and_eq_true] at h;exact h.1
  have hy:ro=none\/yB y=true:=hro.imp id fun h=>by simp only[yB,Bool.and_eq_true] at h;exact h.2
  have qx:∀(e:Ex) (a:Act) (w:World) (ds':List Deferred),(yB x=true->ds'=ds)->At ds' n μ0 ρ0 w0 (K e) a w->Q e.to a w:=fun e a w ds' h1 hat=>hQ e a w ds' (fun h=>by simp only[yB,Bool.and_eq_true] at h;exact h1 h.1) hat
  have qy:∀(e:Ex) (a:Act) (w:World) (ds':List Deferred),(yB y=true->ds'=ds)->At ds' n μ0 ρ0 w0 (K e) a w->Q e.to a w:=fun e a w ds' h1 hat=>hQ e a w ds' (fun h=>by simp only[yB,Bool.and_eq_true] at h;exact h1 h.2) hat
  have hc:=hs.eval c;simp only[awp,qO] at h;split at h
  ·rename_i hh;rw[hh] at hc;generalize hcc:a.eval c=u at hc;cases hc;exact wpIn_cond_true hcc (ihx ro hx K Q ρ μ σ a w qx hs h)
  ·rename_i hh;rw[hh] at hc;generalize hcc:a.eval c=u at hc;cases hc;exact wpIn_cond_false hcc (ihy ro hy K Q ρ μ σ a w qy hs h)
  ·rename_i b hh;rw[hh] at hc;generalize hcc:a.eval c=u at hc;cases hc;exact wpIn_cond_split hcc (fun hb=>ihx ro hx K Q ρ μ σ a w qx hs (h.1 hb)) (fun hb=>ihy ro hy K Q ρ μ σ a w qy hs (h.2 hb))
  ·exact h.elim
 |block id b ih =>
  intro ro hro ds n μ0 ρ0 w0 K Q ρ μ σ a w hQ hs h;refine wpIn_block (ih ro hro _ _ ρ μ σ a w ?_ hs h);rintro e a w ds' hds ⟨ρ,μ,σ,hs,h⟩;cases e with
  |normal=>exact hQ .normal a w ds' hds ⟨ρ,μ,σ,hs,h⟩
  |exit i =>
   simp only[Ex.to,Exit.inBlock];split
   ·rename_i hi;simp only[hi,if_true] at h;exact hQ .normal a w ds' hds ⟨ρ,μ,σ,hs,h⟩
   ·rename_i hi;simp only[hi,if_false] at h;exact hQ (.exit i) a w ds' hds ⟨ρ,μ,σ,hs,h⟩
  |ret=>exact hQ .ret a w ds' hds ⟨ρ,μ,σ,hs,h⟩
 |loop b ih =>
  intro ro hro ds n μ0 ρ0 w0 K Q ρ μ σ a w hQ hs h;simp only[awp,qO] at h;split at h
  case h_2 =>
   refine wpIn_loop_rounds 13 ?_;have key:∀(m:Nat) (ρ:RO) (μ':Lay) (σ':St) (a:Act) (w:World) (ds':List Deferred),(yB b=true->ds'=ds)->Sat ds' n μ0 ρ0 w0 ρ μ' σ' a w->Pd (qO P (yj P frs il) ctl b n) m σ' K->Code.roundsIn (Fr ro) 0 P b Q m a w:=by
    intro m;induction m with
    |zero=>intro ρ μ' σ' a w ds' _ _ h;exact h.elim
    |succ m ihm =>
     intro ρ μ' σ' a w ds' hds hs' h;rw[roundsIn_succ];refine ih ro hro _ _ ρ μ' σ' a w ?_ hs' h;rintro e a w ds'' hds' ⟨ρ,μ,σ,hs,h⟩;have hds2:yB b=true->ds''=ds:=fun h=>by rw[hds' h,hds h]
     cases e with
     |normal=>exact ihm ρ μ σ a w ds'' hds2 hs h
     |exit i=>exact hQ (.exit i) a w ds'' hds2 ⟨ρ,μ,σ,hs,h⟩
     |ret=>exact hQ .ret a w ds'' hds2 ⟨ρ,μ,σ,hs,h⟩
   exact key 13 ρ μ σ a w ds (fun _=>rfl) hs h
  obtain ⟨σ',hw,m,h⟩:=OJ (S:=yj P frs il) hI h;obtain ⟨μ',hs'⟩:=hs.weaken hw;refine wpIn_loop_rounds m ?_;clear hw hs;have key:∀(m:Nat) (ρ:RO) (μ':Lay) (σ':St) (a:Act) (w:World) (ds':List Deferred),(yB b=true->ds'=ds)->Sat ds' n μ0 ρ0 w0 ρ μ' σ' a w->TO n (awp P (yj P frs il) n ctl b) m σ' K->Code.roundsIn (Fr ro) 0 P b Q m a w:=by
   intro m;induction m with
   |zero=>intro ρ μ' σ' a w ds' _ _ h;exact h.elim
   |succ m ihm =>
    intro ρ μ' σ' a w ds' hds hs' h;rw[roundsIn_succ];refine ih ro hro _ _ ρ μ' σ' a w ?_ hs' h;rintro e a w ds'' hds' ⟨ρ,μ,σ,hs,h⟩;have hds2:yB b=true->ds''=ds:=fun h=>by rw[hds' h,hds h]
    cases e with
    |normal =>
     obtain ⟨σ'',hw,h⟩:=h;obtain ⟨μ'',hs⟩:=hs.weaken hw;exact ihm ρ μ'' σ'' a w ds'' hds2 hs h
    |exit i=>exact hQ (.exit i) a w ds'' hds2 ⟨ρ,μ,σ,hs,h⟩
    |ret=>exact hQ .ret a w ds'' hds2 ⟨ρ,μ,σ,hs,h⟩
  exact key m ρ μ' σ' a w ds (fun _=>rfl) hs' h
 |exit id=>intro ro hro ds n μ0 ρ0 w0 K Q ρ μ σ a w hQ hs h;exact wpIn_exit (hQ (.exit id) a w ds (fun _=>rfl) ⟨ρ,μ,σ,hs,h⟩)
 |ret=>intro ro hro ds n μ0 ρ0 w0 K Q ρ μ σ a w hQ hs h;exact wpIn_ret (hQ .ret a w ds (fun _=>rfl) ⟨ρ,μ,σ,hs,h⟩)
 |rangeFunc g ps x y ihx ihy =>
  intro ro hro ds n μ0 ρ0 w0 K Q ρ μ σ a w hQ hs h;rcases hro with rfl | hro
  case inr=>cases hro
  simp only[awp,qO] at h;split at h
  case h_2=>exact h.elim
  rename_i p hp;split at h
  case isFalse=>exact h.elim
  rename_i hnr;rw[Bool.and_eq_true] at hnr;exact OW (S:=yj P frs il) (ctl:=ctl) (fun l=>ihx (some l) (.inr hnr.1)) (fun l=>ihy (some l) (.inr hnr.2)) hnr.1 (fun _ _ _ _ h=>h) (fun e a w ds' hat=>hQ e a w ds' (fun h=>by cases h) hat) hs h
 |scope b _=>intro ro hro ds n μ0 ρ0 w0 K Q ρ μ σ a w hQ hs h;exact h.elim
 |label l=>intro ro hro ds n μ0 ρ0 w0 K Q ρ μ σ a w hQ hs h;exact h.elim
 |goto l=>intro ro hro ds n μ0 ρ0 w0 K Q ρ μ σ a w hQ hs h;exact h.elim
 |refuse s=>intro ro hro ds n μ0 ρ0 w0 K Q ρ μ σ a w hQ hs h;exact h.elim
end
end Go.Proofs.YtkojpnkknehhmaaGreatDoor

/- Contracts out of the evaluator. Contracts of functions that return a slice of new memory, out of the evaluator. -/
import Derived.Test.YtkojpnkknehhmaaGreatDoorW1
namespace Go.Proofs.YtkojpnkknehhmaaGreatDoor
open Go.RowKit
theorem vr (fr:Nat->Nat->AV) (fa:Nat->Nat->Nat->Nat->Bool->AV) (l:List AV) (j:Nat):(AV.zy fr fa l).getD j .undef=(l.getD j .undef).sub fr fa:=by
 induction l generalizing j with
 |nil=>rfl
 |cons x r ih=>cases j<;>simp_all [AV.zy]
theorem wu (fr:Nat->Nat->AV) (fa:Nat->Nat->Nat->Nat->Bool->AV) (l:List AV):(AV.zy fr fa l).length=l.length:=by induction l<;>simp_all [AV.zy]
theorem UY {ρ ρe:RO} {μ:Lay} (hle:ρ.le ρe) {fr:Nat->Nat->AV} {fa:Nat->Nat->Nat->Nat->Bool->AV} {L:List (Nat × Nat × Nat × Bool)}
  (hfr:∀b off,Rv ρe (some μ) (fr b off) (.pointer (some ⟨(μ b).1,off,none⟩)))
  (hfa:∀b off len esz ag cv,(b,off+len*esz,esz,ag)∈L->Rv ρ (some μ) (.aslc b off len esz ag) cv->Rv ρe (some μ) (fa b off len esz ag) cv)
  {v:AV} {cv:Value} (hv:Rv ρ (some μ) v cv) (hL:∀t∈v.zf,t∈L):Rv ρe (some μ) (v.sub fr fa) cv:=by
 generalize hn:some μ=o at hv;induction hv with
 |undef _ v=>exact .undef _ v
 |tt _=>exact .tt _
 |ff _=>exact .ff _
 |bool _ b=>exact .bool _ b
 |lit _ k n=>exact .lit _ k n
 |int _ k n=>exact .int _ k n
 |str _ s=>exact .str _ s
 |nilp _=>exact .nilp _
 |eptr _ cs b o off c hc _ ih=>exact .eptr _ _ b o off c (fun j hj=>hle.cell (hc j (by rw[wu] at hj;exact hj))) (fun j=>by rw[vr];exact ih j (fun t ht=>hL t (by simp only[AV.zf];exact qf ht)) hn)
 |ref m b off=>cases hn;exact hfr b off
 |nilslc _ m=>exact .nilslc _ m
 |eslc _ m a hm=>exact .eslc _ m a hm
 |slc _ m es b o cap k c hm hcap h2 hk hc h _=>exact(Rv.slc _ m es b o cap k c hm hcap h2 hk hc h).mono hle
 |aslc m b off len esz ag cap hcap hr=>cases hn;exact hfa _ _ _ _ _ _ (hL _ (by simp[AV.zf])) (.aslc _ _ _ _ _ _ cap hcap hr)
 |aslc0 m b esz ag p=>cases hn;exact hfa _ _ _ _ _ _ (hL _ (by simp[AV.zf])) (.aslc0 _ _ _ _ p)
 |fn _ g first caps vf vc hf' hc _ _ ih1 ih2 =>
  exact .fn _ g _ _ vf vc (by rw[wu];exact hf') (by rw[wu];exact hc)
   (fun j=>by rw[vr];exact ih1 j (fun t ht=>hL t (by simp[AV.zf,qf ht])) hn) (fun j=>by rw[vr];exact ih2 j (fun t ht=>hL t (by simp[AV.zf,qf ht])) hn)
 |nilfn _=>exact .nilfn _
 |iface _ t v v' _ ih=>exact .iface _ t _ v' (ih (fun t ht=>hL t (by simpa[AV.zf] using ht)) hn)
 |nilif _=>exact .nilif _
 |agg _ cs vs hl _ ih=>exact .agg _ _ vs (by rw[wu];exact hl) (fun j=>by rw[vr];exact ih j (fun t ht=>hL t (by simp[AV.zf,qf ht])) hn)
 |tup _ cs vs hl _ ih=>exact .tup _ _ vs (by rw[wu];exact hl) (fun j=>by rw[vr];exact ih j (fun t ht=>hL t (by simp[AV.zf,qf ht])) hn)
 |map m b =>
  cases hn;have h0:=hfr b 0;simp only[AV.sub];split
  ·rename_i i o he;rw[he] at h0;generalize hp:(Value.pointer (some ⟨(μ b).1,0,none⟩))=p at h0;cases h0;simp only[Value.pointer.injEq,Option.some.injEq,Addr.mk.injEq] at hp;rw[hp.1];exact .map μ i
  ·exact .undef ..
 |nilmap _=>exact .nilmap _
 |yld _ l=>exact .yld _ l
section
variable {frs:Ways} {il:vZ} {ds:List Deferred} {n:Nat} {μ0:Lay} {ρ0:RO} {w0:World} {ρ:RO} {μ:Lay} {σ:St} {a:Act} {w:World}
theorem Po {g:AV->AV} (hg:g .undef=.undef) (l:List AV) (j:Nat):(l.map g).getD j .undef=g (l.getD j .undef):=by
 simp only[List.getD,List.getElem?_map];cases l[j]?<;>simp[hg]
theorem Uo (m:Nat) (σ:St) (k:Nat):Iz m σ k .undef=.undef:=by cases k<;>rfl
theorem TM (hs:Sat ds n μ0 ρ0 w0 ρ μ σ a w) {ρe:RO} (hblk:∀b x,n<=b->σ.bx.getD b none=some x->(μ b).2≠0->ρe (μ b).1=w.heap[(μ b).1]?) {g:AV->AV} (hg:g .undef=.undef)
  (hgs:∀v cv,Rv ρ (some μ) v cv->Rv ρe (some μ) (g v) cv) (b off:Nat):Rv ρe (some μ) (IA n σ g b off) (.pointer (some ⟨(μ b).1,off,none⟩)):=by
 unfold IA;split
 ·exact .ref μ b off
 ·rename_i hbn;split
  ·rename_i x hx;split
   ·exact .undef ..
   ·rename_i hxm;rw[Bool.or_eq_true,not_or] at hxm;split
    ·rename_i ht;obtain ⟨f,h1,h2⟩:=hs.cells hx (HJ (by simpa using hxm.2));have:=Rv.eptr (ρ:=ρe) (some μ) (AV.zb (x.cs.map g)) (μ b).1 0 off f (fun j hj=>by
      rw[yu,List.length_map] at hj;refine N4 (h1 j hj) (hblk b x (by omega) hx ?_);have:=(hs.box b x hx).len;omega) (fun j=>by
      rw[yP];have hj:Rv ρe (some μ) ((x.cs.map g).getD j .undef) (f j):=by rw[Po hg];exact hgs _ _ (h2 j).zm
      exact hj.norm)
     rw[Nat.zero_add] at this;exact this
    ·exact .undef ..
  ·exact .undef ..
theorem MF (hs:Sat ds n μ0 ρ0 w0 ρ μ σ a w) {ρe:RO} (hle:ρ.le ρe) (hblk:∀b x,n<=b->σ.bx.getD b none=some x->(μ b).2≠0->ρe (μ b).1=w.heap[(μ b).1]?) :
  ∀(k:Nat) (v:AV) (cv:Value),Rv ρ (some μ) v cv->Rv ρe (some μ) (Iz n σ k v) cv:=by
 intro k;induction k with
 |zero =>
  intro v cv hv;refine UY (L:=v.zf) hle (fun b off=>?_) (fun _ _ _ _ _ _ _ _=>.undef ..) hv (fun t h=>h);split
  ·exact .ref ..
  ·exact .undef ..
 |succ k ih =>
  intro v cv hv;exact UY (L:=v.zf) hle (fun b off=>TM hs hblk (Uo n σ k) ih b off) (fun _ _ _ _ _ _ _ _=>.undef ..) hv (fun t h=>h)
theorem QZ (hs:Sat ds n μ0 ρ0 w0 ρ μ σ a w) {ρe:RO} (hle:ρ.le ρe) (hblk:∀b x,n<=b->σ.bx.getD b none=some x->(μ b).2≠0->ρe (μ b).1=w.heap[(μ b).1]?)
  {v:AV} {cv:Value} (hv:Rv ρ (some μ) v cv) (hok:∀t∈v.zf,okA σ.zg t):Rv ρe (some μ) (frz n σ v) cv:=by
 refine UY (L:=v.zf) hle (fun b off=>TM hs hblk (Uo n σ 3) (MF hs hle hblk 3) b off) ?_ hv (fun t h=>h);intro b off len esz ag cu ht hu;cases hb:σ.zg b with
 |none=>exact .undef ..
 |some cs =>
  simp only;split
  ·exact .undef ..
  ·rename_i hbn;have:=hs.snap (ρc:=ρe) hle (snaps:=[b]) (fun b' x hb' hx hk=>by
    rw[List.mem_singleton] at hb';subst hb';exact hblk b' x (by omega) hx hk) hu (fun t h=>by
    simp only[AV.zf,List.mem_singleton] at h;subst h;exact⟨by simp,hok _ ht⟩)
   simp only[AV.snap,hb] at this;exact this
theorem X5 {P:Program} (hs:Sat ds n μ0 ρ0 w0 ρ μ σ a w):∀(l:List ResultVar) (vs:List AV),l.mapM (Tp P σ)=some vs ->
  ∃cvs:List Value,(∀g:ResultVar->Sem Value,(∀t,g (.tmp t)=pure (a.tmps.getD t Go.undef))->(∀b t,g (.cell b t)=(do loadVar t (<- asAddr (a.tmps.getD b Go.undef))))->(l.mapM g).run P w=.ok cvs w)/\vs.length=cvs.length/\∀j,Rv ρ (some μ) (vs.getD j .undef) (cvs.getD j Go.undef):=by
 intro l;induction l with
 |nil=>intro vs h;cases h;exact⟨[],fun _ _ _=>rfl,rfl,fun j=>.undef ..⟩
 |cons x r ih =>
  intro vs h;rw[List.mapM_cons] at h;cases hx:Tp P σ x with
  |none=>simp[hx] at h
  |some v =>
   cases hr:r.mapM (Tp P σ) with
   |none=>simp[hx,hr] at h
   |some us =>
    simp only[hx,hr,Option.bind_eq_bind,Option.bind_some,Option.pure_def,Option.some.injEq] at h;subst h;obtain ⟨cvs,h1,h2,h3⟩:=ih us hr;have hone:∃cv,(∀g:ResultVar->Sem Value,(∀t,g (.tmp t)=pure (a.tmps.getD t Go.undef))->(∀b t,g (.cell b t)=(do loadVar t (<- asAddr (a.tmps.getD b Go.undef))))->(g x).run P w=.ok cv w)/\Rv ρ (some μ) v cv:=by
     cases x with
     |tmp t=>simp only[Tp,Option.some.injEq] at hx;subst hx;exact⟨_,fun g h _=>by rw[h];rfl,hs.sl t⟩
     |cell b t =>
      simp only[Tp] at hx;have hv:=hs.sl b;split at hx
      ·rename_i bb off hh;rw[hh] at hv;generalize hu:a.tmps.getD b Go.undef=u at hv;cases hv;split at hx
       ·rename_i cs hb;obtain ⟨y,hy,rfl⟩:=yK hb;split at hx
        ·cases hx
        rename_i hym;obtain ⟨f,g1,g2⟩:=hs.cells hy (HJ (by simpa using hym));obtain ⟨cv,g3,g4⟩:=ku hx g1 (fun j=>(g2 j).zm);rw[Nat.zero_add] at g3;exact⟨cv,fun g _ h=>by rw[h];simp only[hu,asAddr,Sem.run_bind,Sem.run_pure,Result.andThen_ok];exact g3,g4⟩
       ·cases hx
      ·rename_i cs off hh;rw[hh] at hv;generalize hu:a.tmps.getD b Go.undef=u at hv;cases hv with
       |eptr _ _ B o _ c hc hh2 =>
        obtain ⟨cv,g3,g4⟩:=ku hx (w:=w) (B:=B) (o:=o) (f:=c) (fun j hj=>Yu hs.ro (hc j hj)) hh2;exact⟨cv,fun g _ h=>by rw[h];simp only[hu,asAddr,Sem.run_bind,Sem.run_pure,Result.andThen_ok];exact g3,g4⟩
      ·cases hx
    obtain ⟨cv,h4,h5⟩:=hone;refine⟨cv::cvs,fun g hg1 hg2=>?_,by simp[h2],fun j=>?_⟩
    ·rw[List.mapM_cons];simp only[Sem.run_bind,h4 g hg1 hg2,h1 g hg1 hg2,Result.andThen_ok,Sem.run_pure]
    ·cases j with
     |zero=>exact h5
     |succ j=>simpa using h3 j
theorem UO {g:Nat->Option (List AV)} {m:Nat} {O:List (List AV)} (h:(List.range m).mapM g=some O):O.length=m/\∀(b:Nat) (cs:List AV),O[b]? = some cs->g b=some cs:=by
 have key:∀(l:List Nat) (O:List (List AV)),l.mapM g=some O->O.length=l.length/\∀(i:Nat) (cs:List AV),O[i]? = some cs->∃b,l[i]? = some b/\g b=some cs:=by
  intro l;induction l with
  |nil=>intro O h;cases h;exact⟨rfl,fun i cs hi=>by simp at hi⟩
  |cons x r ih =>
   intro O h;rw[List.mapM_cons] at h;cases hx:g x with
   |none=>simp[hx] at h
   |some y =>
    cases hr:r.mapM g with
    |none=>simp[hx,hr] at h
    |some ys =>
     simp only[hx,hr,Option.bind_eq_bind,Option.bind_some,Option.pure_def,Option.some.injEq] at h;subst h;obtain ⟨h1,h2⟩:=ih ys hr;refine⟨by simp[h1],fun i cs hi=>?_⟩;cases i with
     |zero=>simp only[List.getElem?_cons_zero,Option.some.injEq] at hi;subst hi;exact⟨x,by simp,hx⟩
     |succ i=>simpa using h2 i cs (by simpa using hi)
 obtain ⟨h1,h2⟩:=key _ _ h;refine⟨by simpa using h1,fun b cs hb=>?_⟩;obtain ⟨b',h3,h4⟩:=h2 b cs hb;obtain ⟨h5,h6⟩:=List.getElem?_eq_some_iff.1 h3;simp only[List.getElem_range] at h6;rw[h6];exact h4
theorem YH {ρ:RO} {μ:Option Lay} (vs:List AV) (cvs:List Value) (h2:vs.length=cvs.length) (h3:∀j,Rv ρ μ (vs.getD j .undef) (cvs.getD j Go.undef)) :
  Rv ρ μ (Xu vs) (if h:cvs.toArray.size=1 then cvs.toArray[0] else .tuple cvs.toArray):=by
 match vs,cvs,h2,h3 with
 |[],[],_,h3=>exact .tup _ _ #[] rfl (fun j=>.undef ..)
 |[v],[c],_,h3=>exact h3 0
 |v::u::r,c::d::s,h2,h3 =>
  rw[dif_neg (by simp)];exact .tup _ _ _ (by simpa using h2) (fun j=>by have:=h3 j;rw[<- ja];exact this)
theorem PM (vs:List AV) (t) (ht:t∈(Xu vs).zf):t∈AV.za vs:=by
 match vs with
 |[]=>exact ht
 |[v]=>simpa[AV.za,Xu] using ht
 |v::u::r=>exact ht
open Classical in
theorem Le {P:Program} {fn:Func} {v:AV} {O':List (List AV)} (hs:Sat ds n μ0 ρ0 w0 ρ μ σ a w) (h:I1 P n fn σ (fun r O=>r=v/\O=O')) :
  ∃cv,(results fn a.tmps).run P w=.ok cv w/\Ly ρ0 μ0 n w0 v O' (.returned cv) w:=by
 unfold I1 at h;split at h
 case h_2=>exact h.elim
 rename_i vs hvs;split at h
 case h_2=>exact h.elim
 rename_i O hO;split at h
 ·exact h.elim
 rename_i hka0;simp only[Bool.and_eq_false_iff,not_or,Bool.not_eq_false] at hka0;obtain ⟨hka,hna⟩:=hka0;have hnarr:∀b x,b<n->σ.bx.getD b none=some x->x.arr=false:=fun b x hb hx=>by
  have:=List.all_eq_true.1 hna b (List.mem_range.2 hb);rw[hx] at this;simpa using this
 have hfz:∀cs∈O,ql (cs.map (frz n σ))=ql cs:=fun cs hcs=>TV (List.all_eq_true.1 (by simpa using hka) cs hcs) fun m es he=>by rw[he];rfl
 obtain ⟨hok,hv,hO'⟩:=xO h;obtain ⟨cvs,h1,h2,h3⟩:=X5 (P:=P) hs _ _ hvs;let X:Nat->Prop:=fun k=>∃b x,n<=b/\σ.bx.getD b none=some x/\(μ b).2≠0/\(μ b).1=k
 let ρe:RO:=fun k=>if X k then w.heap[k]? else ρ k
 have hle:ρ.le ρe:=by
  intro k o hk;show (if X k then _ else ρ k)=_;rw[if_neg]
  ·exact hk
  ·rintro ⟨b,x,_,hx,hkb,rfl⟩;rw[hs.sep b _ (yi hx) hkb] at hk;cases hk
 have hblk:∀b x,n<=b->σ.bx.getD b none=some x->(μ b).2≠0->ρe (μ b).1=w.heap[(μ b).1]?:=by
  intro b x hb hx hk;show (if X (μ b).1 then _ else _)=_;rw[if_pos ⟨b,x,hb,hx,hk,rfl⟩]
 have hroe:∀k o,ρe k=some o->w.heap[k]? = some o:=by
  intro k o hk;simp only[ρe] at hk;split at hk
  ·exact hk
  ·exact hs.ro k o hk
 have hkeep:∀(b i:Nat),NR n b=some i->μ0 i=μ b:=by
  intro b i hb;unfold NR at hb;split at hb
  ·rename_i hbn;cases hb;exact(hs.inc b hbn).symm
  ·cases hb
 obtain ⟨hOl,hOb⟩:=UO hO;have hall:∀c,c<n->∃cs,σ.box c=some cs:=fun c hc=>⟨_,hOb c _ (List.getElem?_eq_getElem (by omega))⟩
 have hval:∃cv,(results fn a.tmps).run P w=.ok cv w/\Rv ρ (some μ) (Xu vs) cv:=by
  have hrun:(results fn a.tmps).run P w=.ok (if h:cvs.toArray.size=1 then cvs.toArray[0] else .tuple cvs.toArray) w:=by
   unfold results;rw[Sem.run_bind,Array.mapM_eq_mapM_toList];rw[Sem.run_map,h1 _ (fun t=>rfl) (fun b t=>rfl)];rfl
  exact⟨_,hrun,YH vs cvs h2 h3⟩
 obtain ⟨cv,hr,hrv⟩:=hval;have haslcs:∀t,t∈(Xu vs).zf->t∈AV.za vs:=PM vs;refine⟨cv,hr,⟨⟨cv,ρe,rfl,hs.le.trans hle,hroe,?_,?_,?_⟩,?_,hs.frame,hs.size,hs.os,hs.tape,hs.output⟩⟩
 ·intro k o hk h0;simp only[ρe] at hk;split at hk
  ·rename_i hX;obtain ⟨b,x,hb,hx,hkb,rfl⟩:=hX;rcases hs.own b _ (yi hx) hkb hb with h | ⟨c,hc,h1,he⟩
   ·exact h
   ·obtain ⟨cs0,hcs0⟩:=hall c hc;exact absurd (he.trans (by rw[hs.inc c hc])) (hs.inj b c _ _ (yi hx) hcs0 (by omega) hkb (by rw[hs.inc c hc];exact h1))
  ·rcases hs.new k o hk h0 with h | ⟨c,hc,h1,he⟩
   ·exact h
   ·obtain ⟨cs0,hcs0⟩:=hall c hc;have:=hs.sep c cs0 hcs0 (by rw[hs.inc c hc];exact h1);rw[hs.inc c hc,<- he,hk] at this;cases this
 ·rw[<- hv];exact((QZ hs hle hblk hrv (fun t ht=>hok t (List.mem_append_left _ (haslcs t ht)))).zj hkeep).zD
 ·intro b cs hb;rw[<- hO'] at hb;simp only[List.getElem?_map] at hb;obtain ⟨cs0,hcs0,rfl⟩:=Option.map_eq_some_iff.1 hb;have hbn:b<n:=by have:=(List.getElem?_eq_some_iff.1 hcs0).1;omega
  have hbox:=hOb b cs0 hcs0;obtain ⟨x,hx,rfl⟩:=yK hbox;obtain ⟨g1,g2⟩:=hs.box b x hx;have hm:=hs.inc b hbn;rw[hm] at g1 g2;refine⟨by simpa[yu,yQ] using g1,?_⟩;rcases g2 with g2 | ⟨o,g3,g5⟩
  ·exact .inl g2
  ·refine .inr ⟨o,g3,g5.imp (by rw[vk,vl];exact hfz _ (List.mem_of_getElem? hcs0)) (fun j cv hj=>?_) (hl:=by rw[qD,hnarr b x hbn hx];rfl)⟩;rw[yP,qt,Po rfl];refine((QZ hs hle hblk hj.zm (fun t ht=>hok t (List.mem_append_right _ ?_))).zj hkeep).norm;have:t∈AV.za x.cs:=qf ht;obtain ⟨l1,l2,hll⟩:=List.append_of_mem (List.mem_of_getElem? hcs0);rw[hll];have key:∀(p q:List AV),AV.za (p++q)=AV.za p++AV.za q:=by
    intro p q;induction p with
    |nil=>rfl
    |cons c r ih=>simp[AV.za,ih]
   simp only[List.flatMap_append,List.flatMap_cons,key,List.mem_append,id];exact .inr (.inl this)
 ·rw[<- hO'];simpa using hOl
theorem Ij {ρ:RO} {D:Nat} {o:Obj} (h:ρ D=some o) (ho:∀c e f,o≠.cells c e f) {b off:Nat} {v:Value} (hc:ρ.cell b off=some v):b≠D:=by
 rintro rfl;unfold RO.cell at hc;rw[h] at hc;cases o<;>simp_all
theorem Sat.close {P:Program} {D:Nat} {tmps:Array Value} (hs:Sat ({ target:=.collected D,args:=#[] }::ds) n μ0 ρ0 w0 ρ μ σ { tmps,defers:={ target:=.collected D,args:=#[] }::ds } w) :
  (Instr.takeDeferred D).run P w=.ok [] (w.putObj D (.deferred none))/\∃ρ',Sat ds n μ0 ρ0 w0 ρ' μ σ { tmps,defers:=ds } (w.putObj D (.deferred none)):=by
 obtain ⟨Ds,h1,h2,h3⟩:=hs.defs;cases Ds with
 |nil=>cases h1
 |cons D' Ds =>
  simp only[List.map_cons,List.cons.injEq] at h1;obtain ⟨h1,rfl⟩:=h1;injection h1 with h1 _
  injection h1 with h1
  subst h1;obtain ⟨g1,g2,g3⟩:=h3 D (by simp);have hD:=hs.ro _ _ g1;refine⟨run_takeDeferred hD,?_⟩;let ρ':RO:=fun k=>if k=D then none else ρ k
  have hcell:∀b off v,ρ.cell b off=some v->ρ'.cell b off=some v:=by
   intro b off v hc;have hb:=Ij g1 (by simp) hc;unfold RO.cell at hc ⊢;simp only[ρ',if_neg hb];exact hc
  have hother:∀k,k≠D->(w.putObj D (.deferred none)).heap[k]? = w.heap[k]?:=fun k hk=>World.putObj_heap_other hk
  refine⟨ρ',{ hs with dfe:=rfl,defs:=⟨Ds,rfl,(List.nodup_cons.1 h2).2,fun D' hD'=>?_⟩,sl:=fun t=>(hs.sl t).zK hcell,box:=fun b x hx=>?_,sep:=fun b cs hb hk=>?_,ro:=fun k o hk=>?_,le:=fun k o hk=>?_,new:=fun k o hk h0=>?_,frame:=fun k hk hb=>?_,size:=by rw[World.putObj_size];exact hs.size }⟩
  ·have hne:D'≠D:=fun h=>(List.nodup_cons.1 h2).1 (by rw[<- h];exact hD')
   obtain ⟨k1,k2,k3⟩:=h3 D' (List.mem_cons_of_mem _ hD');exact⟨by simp only[ρ',if_neg hne];exact k1,k2,k3⟩
  ·obtain ⟨k1,k2⟩:=hs.box b x hx;refine⟨k1,?_⟩;rcases k2 with k2 | ⟨o,k3,k5⟩
   ·exact .inl k2
   ·refine .inr ⟨o,?_,k5.imp rfl fun j cv hj=>hj.zK hcell⟩;rw[hother]
    ·exact k3
    ·rintro rfl;rw[hD] at k3;cases k3;unfold ub at k5;split at k5
     ·obtain ⟨_,_,h,_⟩:=k5;cases h
     ·obtain ⟨_,_,h,_⟩:=k5;cases h
  ·simp only[ρ'];split
   ·rfl
   ·exact hs.sep b cs hb hk
  ·simp only[ρ'] at hk;split at hk
   ·cases hk
   ·rename_i hne;rw[hother k hne];exact hs.ro k o hk
  ·simp only[ρ'];rw[if_neg (by rintro rfl;rw[g2] at hk;cases hk)];exact hs.le k o hk
  ·simp only[ρ'] at hk;split at hk
   ·cases hk
   ·exact hs.new k o hk h0
  ·rw[hother k (by omega)];exact hs.frame k hk hb
theorem Sat.leaves {P:Program} {fn:Func} {R:Ending->World->Prop} (hR:∀ρ tmps w,Sat [] n μ0 ρ0 w0 ρ μ σ { tmps,defers:=[] } w->∃v,(results fn tmps).run P w=.ok v w/\R (.returned v) w) :
  ∀(ds:List Deferred) (tmps:Array Value) (ρ:RO) (w:World),Sat ds n μ0 ρ0 w0 ρ μ σ { tmps,defers:=ds } w->LeavesInM Fence.wide 0 P fn tmps R ds .returning w:=by
 intro ds;induction ds with
 |nil=>intro tmps ρ w hs;exact hR ρ tmps w hs
 |cons d ds ih =>
  intro tmps ρ w hs;obtain ⟨Ds,h1,_,_⟩:=hs.defs;cases Ds with
  |nil=>cases h1
  |cons D Ds =>
   simp only[List.map_cons,List.cons.injEq] at h1;obtain ⟨rfl,_⟩:=h1;obtain ⟨g1,ρ',g2⟩:=hs.close (P:=P);exact⟨by simp,.inl ⟨D,_,rfl,g1,ih tmps ρ' _ g2⟩⟩
theorem Hg {P:Program} (hil:kG P il) (hI:kF il) {f:FuncId} {fn:Func} {keep:Ctl} {args:List AV} {boxes:List Bx} {v:AV} {O':List (List AV)} (hm:P.follows .mixedOrders=true) (hf:P.funcs[f]? = some fn)
  (hcall:∀(vs:Array Value) (w:World),(callFunc f vs).run P w=.ok (.enter f vs) w) (harr:boxes.all (fun x=>!x.arr)=true) (_hnt:args.length<=fn.ntmps)
  (h:H7 P (yj P frs il) boxes.length keep fn args boxes (fun r O=>r=v/\O=O')):wB P f args (boxes.map (·.cs)) v O':=by
 refine⟨hcall,fun ρ μ w vs hgl hro hbox hinj hsep hargs=>?_⟩;unfold H7 at h;cases hb:fn.body with
 |none=>simp[hb] at h
 |some c =>
  rw[hb] at h;simp only at h;have hl:(boxes.map (·.cs)).length=boxes.length:=by simp
  refine callsIn_wide.1 (callsIn_of_wp_marks (F:=Fence.wide) (n:=0) hf hb trivial ?_);rw[hl] at *;have hbx:∀b x,(XS fn args boxes).bx.getD b none=some x->b<boxes.length/\boxes[b]? = some x:=by
   intro b x hx;simp only[XS,List.getD,List.getElem?_append,List.length_map,List.getElem?_map] at hx;split at hx
   ·rename_i hlt;cases hg:boxes[b]? with
    |none=>simp[hg] at hx
    |some y=>simp only[hg,Option.map_some,Option.getD_some,Option.some.injEq] at hx;exact⟨hlt,by rw[hx]⟩
   ·rename_i hlt;have:(List.replicate (fn.ntmps+8) (none:Option Bx))[b-boxes.length]?.getD none=none:=by
     cases hg:(List.replicate (fn.ntmps+8) (none:Option Bx))[b-boxes.length]? with
     |none=>rfl
     |some y=>exact(List.eq_of_mem_replicate (List.mem_of_getElem? hg))
    rw[this] at hx;cases hx
  have hlive:∀b cs,(XS fn args boxes).box b=some cs->b<boxes.length:=by
   intro b cs h;obtain ⟨x,hx,-⟩:=yK h;exact(hbx b x hx).1
  have hs:Sat [] boxes.length μ ρ w ρ μ (XS fn args boxes) { tmps:=vs++Array.replicate (fn.ntmps-vs.size) Go.undef,defers:=[] } w:=by
   refine { gl:=hgl,dfe:=rfl,defs:=.nil _ _ _,sz:=?_,sl:=?_,box:=?_,inj:=?_,sep:=?_,own:=?_,inc:=fun _ _=>rfl,ro:=hro,le:=RO.le_refl ρ,new:=?_,frame:=fun _ _ _=>rfl,size:=Nat.le_refl _,os:=rfl,tape:=rfl,output:=rfl }
   ·simp only[XS,List.length_append,List.length_replicate,Array.size_append,Array.size_replicate,hargs.1]
   ·have h2:Rvs ρ (some μ) (List.replicate (fn.ntmps-args.length) .undef) (Array.replicate (fn.ntmps-vs.size) Go.undef):=by
     refine⟨by simp[hargs.1],fun j=>?_⟩;have:(List.replicate (fn.ntmps-args.length) AV.undef).getD j .undef=.undef:=by
      simp only[List.getD];cases hg:(List.replicate (fn.ntmps-args.length) AV.undef)[j]? with
      |none=>rfl
      |some y=>exact List.eq_of_mem_replicate (List.mem_of_getElem? hg)
     rw[this];exact .undef ..
    exact(jc hargs h2).2
   ·intro b x hx;obtain ⟨h1,h2⟩:=hbx b x hx;have h3:=hbox b x.cs (by simp[h2]);have:lev μ x=some μ:=by
     unfold lev;rw[if_neg];have:=List.all_eq_true.1 harr x (List.mem_of_getElem? h2);simpa using this
    rw[this];exact h3
   ·intro b b' cs cs' h h' hne hk hk';exact hinj b b' (by have:=hlive b cs h;simpa using this) (by have:=hlive b' cs' h';simpa using this) hne hk hk'
   ·intro b cs h hk;exact hsep b (by have:=hlive b cs h;simpa using this) hk
   ·intro b cs h _ hn;have:=hlive b cs h;omega
   ·intro k o h h0;rw[h0] at h;cases h
  refine Qt hm hil hI c none (.inl rfl) _ _ ρ μ _ _ w ?_ hs h;rintro e a w' ds' _ ⟨ρ',μ',σ',hs',h'⟩;have fin:I1 P boxes.length fn σ' (fun r O=>r=v/\O=O')->LeavesInM Fence.wide 0 P fn a.tmps (Ly ρ μ boxes.length w v O') a.defers .returning w':=fun h' =>
   (by
   have ha:a=⟨a.tmps,ds'⟩:=by have:=hs'.dfe;cases a;simp_all
   have hd:=hs'.dfe;rw[ha] at hs';rw[hd];exact Sat.leaves (fun ρ tmps w hs=>Le hs h') ds' a.tmps ρ' w' hs')
  cases e with
  |normal=>exact fin h'
  |exit id=>exact h'.elim
  |ret=>exact fin h'
end
section
variable {frs:Ways} {il:vZ} {ds:List Deferred} {μ0:Lay} {ρ0:RO} {w0:World} {ρ:RO} {μ:Lay} {σ:St} {a:Act} {w:World}
end
def wN (P:Program):List (FuncId × Ctl)->Prop
 |[]=>True
 |q::r=>(∀(vs:Array Value) (w:World),(callFunc q.1 vs).run P w=.ok (.enter q.1 vs) w)/\wN P r
theorem wN.at {P:Program}:∀ {l:List (FuncId × Ctl)},wN P l->∀ {f:FuncId} {c:Ctl},l.lookup f=some c->∀(vs:Array Value) (w:World),(callFunc f vs).run P w=.ok (.enter f vs) w:=by
 intro l;induction l with
 |nil=>intro _ f c h;simp at h
 |cons q r ih =>
  intro he f c h;rw[List.lookup_cons] at h;split at h
  ·rename_i hq;simp only[beq_iff_eq] at hq;subst hq;exact he.1
  ·exact ih he.2 h
theorem IE {P:Program} {S:Specs} (hI:kF S.inl):kF (MK P S):=by
 intro f args σ K K' h hk;unfold MK at hk ⊢;split at hk
 case h_2=>exact hk.elim
 rename_i ctl fn hl hf;split at hk
 case h_2=>exact hk.elim
 rename_i c hb;split at hk
 case isFalse=>exact hk.elim
 rename_i hc;try simp only[hl,hf,hb]
 rw[if_pos hc];refine SA hI c (fun e τ _ hk=>?_) hk;cases e with
 |exit i=>exact hk.elim
 |normal =>
  dsimp only at hk ⊢;split at hk
  ·rename_i vs hv;exact h _ _ rfl hk
  ·exact hk.elim
 |ret =>
  dsimp only at hk ⊢;split at hk
  ·rename_i vs hv;exact h _ _ rfl hk
  ·exact hk.elim
theorem IF {P:Program} {frs:Ways} {il:vZ} (hm:P.follows .mixedOrders=true) (hil:kG P il) (hI:kF il) (he:wN P frs.il):kG P (MK P (yj P frs il)):=by
 intro f args σ K hk ds n μ0 ρ0 w0 ρ μ a w vs hs hargs;unfold MK at hk;split at hk
 case h_2=>exact hk.elim
 rename_i ctl fn hl hf;split at hk
 case h_2=>exact hk.elim
 rename_i c hb;split at hk
 case isFalse=>exact hk.elim
 rename_i hc;rw[Bool.and_eq_true] at hc;obtain ⟨hc1,hc2⟩:=hc;have hc1:args.length<=fn.ntmps:=by simpa using hc1
 simp only[yp,Bool.and_eq_true,List.all_eq_true] at hc2;have app:∀(p q:List AV),AV.zd (p++q)=AV.zd p++AV.zd q:=by
  intro p q;induction p with
  |nil=>rfl
  |cons c r ih=>simp[AV.zd,ih]
 have hlive:yp σ=true:=by
  simp only[yp,Bool.and_eq_true,List.all_eq_true];exact⟨fun b hb=>hc2.1 b (by rw[app];exact List.mem_append_left _ hb),hc2.2⟩
 refine⟨wN.at he hl vs w,?_⟩;have hrep:∀k j,(List.replicate k AV.undef).getD j .undef=.undef:=by
  intro k j;simp only[List.getD];cases hg:(List.replicate k AV.undef)[j]? with
  |none=>rfl
  |some y=>exact List.eq_of_mem_replicate (List.mem_of_getElem? hg)
 have h2:Rvs ρ (some μ) (List.replicate (fn.ntmps-args.length) .undef) (Array.replicate (fn.ntmps-vs.size) Go.undef):=⟨by simp[hargs.1],fun j=>by rw[hrep];exact .undef ..⟩;have hv:=jc hargs h2;have hrs:=hs.zA hlive (sl:=args++List.replicate (fn.ntmps-args.length) .undef) (tm:=vs++Array.replicate (fn.ntmps-vs.size) Go.undef) hv.1 hv.2 (fun b hb=>by
  rw[app] at hb;rcases List.mem_append.1 hb with hb | hb
  ·exact hc2.1 b (by rw[app];exact List.mem_append_right _ hb)
  ·obtain ⟨j,_,hj⟩:=X4 hb;rw[hrep] at hj;simp[AV.refs] at hj) (fn.ntmps+8)
 refine callsIn_wide.1 (callsIn_of_wp_marks (F:=Fence.wide) (n:=0) hf hb trivial ?_);refine Qt hm hil hI c none (.inl rfl) _ _ _ _ _ _ _ ?_ hrs hk;rintro e a2 w2 ds' _ ⟨ρ2,μ2,τ,hi,hk2⟩;have fin:(match fn.results.toList.mapM (Tp P τ) with
   |some vs=>K (Xu vs) ⟨σ.sl,τ.bx⟩
   |none=>False)->LeavesInM Fence.wide 0 P fn a2.tmps (fun e w'=>∃cv,e=.returned cv/\∃ρ' v σ',K v σ'/\(qA n σ.bx σ'.bx=true->(AV.refs v).all (qh σ'.bx)=true->∃μ',Rv ρ' (some μ') v cv/\Sat ds n μ0 ρ0 w0 ρ' μ' σ' a w')) a2.defers .returning w2:=by
  intro hk3;have ha:a2=⟨a2.tmps,ds'⟩:=by have:=hi.dfe;cases a2;simp_all
  have hd:=hi.dfe;rw[ha] at hi;rw[hd];refine Sat.leaves (fun ρ3 tmps w3 hs3=>?_) ds' a2.tmps ρ2 w2 hi;split at hk3
  case h_2=>exact hk3.elim
  rename_i us hus;obtain ⟨cvs,r1,r2,r3⟩:=X5 (P:=P) hs3 _ _ hus;refine⟨(if h:cvs.toArray.size=1 then cvs.toArray[0] else .tuple cvs.toArray),?_,_,rfl,ρ3,Xu us,⟨σ.sl,τ.bx⟩,hk3,fun hbk hlr=>⟨_,(YH us cvs r2 r3).lay fun b hb=>xy hs3 hbk (List.all_eq_true.1 hlr b hb),hs.compose hlive hs3 hbk⟩⟩;unfold results;rw[Sem.run_bind,Array.mapM_eq_mapM_toList];rw[Sem.run_map,r1 _ (fun t=>rfl) (fun b t=>rfl)];rfl
 cases e with
 |normal=>exact fin hk2
 |exit i=>exact hk2.elim
 |ret=>exact fin hk2
theorem OM {P:Program} {w:Ways} (hm:P.follows .mixedOrders=true) (he:wN P w.il):∀k,∃il,mkS P (wB P) (jQ P) (xv P) w k=yj P w il/\kG P il/\kF il:=by
 intro k;induction k generalizing w with
 |zero=>exact⟨fun _ _ _ _=>False,rfl,fun _ _ _ _ h=>h.elim,fun _ _ _ _ _ _ h=>h.elim⟩
 |succ k ih =>
  obtain ⟨il,h1,h2,h3⟩:=ih (w:=w.inner) he;refine⟨MK P (mkS P (wB P) (jQ P) (xv P) w.inner k),rfl,?_,?_⟩
  ·rw[h1];exact IF (frs:=w.inner) hm h2 h3 he
  ·rw[h1];exact IE h3
theorem yb {P:Program} {w:Ways} {k:Nat} {f:FuncId} {fn:Func} {keep:Ctl} {args:List AV} {boxes:List Bx} {css:List (List AV)} {n:Nat} {v:AV} {O':List (List AV)} {R:Prop} (hm:P.follows .mixedOrders=true) (hil:wN P w.il) (hf:P.funcs[f]? = some fn)
  (hcall:∀(vs:Array Value) (w:World),(callFunc f vs).run P w=.ok (.enter f vs) w) (hn:boxes.length=n) (hcs:boxes.map (·.cs)=css) (harr:boxes.all (fun x=>!x.arr)=true) (hnt:args.length<=fn.ntmps)
  (he:H7 P (mkS P (wB P) (jQ P) (xv P) w k) n keep fn args boxes (fun r O=>r=v/\O=O')=R) (h:R):wB P f args css v O':=by
 subst hn;subst hcs;subst he;obtain ⟨il,h1,h2,h3⟩:=OM hm hil k;rw[h1] at h;exact Hg (frs:=w) h2 h3 hm hf hcall harr hnt h
end Go.Proofs.YtkojpnkknehhmaaGreatDoor

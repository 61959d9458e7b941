/- Calls of functions that return a slice of new memory. -/
import Derived.Test.YtdeeekgohhkdbaaGreatDoorR13
namespace Go.Proofs.YtdeeekgohhkdbaaGreatDoor
open Go.RowKit
section
variable {frs:Ways} {il:vH} {ds:List Deferred} {n:Nat} {E0:Lay} {ρ0:RO} {w0:World} {ρ:RO} {E:Lay} {Z:St} {a:Act} {w:World}
theorem Nv {args:List AV} (h:PX args=true):PX (args.map AV.zx)=true:=by
 cases args with
 |nil=>rfl
 |cons x r =>
  show (!PF x.zx)=true;unfold AV.zx;split
  ·rfl
  ·cases x<;>first | (simp only[AV.norm,PF];done) | (simp only[AV.norm,PF];rfl) | cases h
theorem Rv.zx {ρ:RO} {E:Option Lay} {v:AV} {cv:Value} (hv:Rv ρ E v cv):Rv ρ E v.zx cv:=by
 unfold AV.zx;split
 ·exact hv
 ·exact hv.norm
theorem LO (l:List AV) (j:Nat):(l.map AV.zx).getD j .undef=(l.getD j .undef).zx:=by
 rw[List.getD_eq_getElem?_getD,List.getD_eq_getElem?_getD,List.getElem?_map];cases l[j]?<;>rfl
theorem UT {args:List AV} {b len:Nat} (h:Wq args=some (b,len)):args=[.aslc b 0 len 1 false]:=by
 unfold Wq at h;split at h
 ·cases h;rfl
 ·cases h
theorem Sat.yb (hs:Sat ds n E0 ρ0 w0 ρ E Z a w) {b:Nat} {x:Bx} {cs:List AV} {w':World} {o:Obj} (hb:Z.bx.getD b none=some x) (hk:(E b).2≠0) (hlt:(E b).1<w.heap.size)
  (ho:w'.os=w.os) (ht:w'.tape=w.tape) (hou:w'.output=w.output) (hsz:w.heap.size<=w'.heap.size) (hfr:∀i,i<w.heap.size->i≠(E b).1->w'.heap[i]? = w.heap[i]?)
  (hB:w'.heap[(E b).1]? = some o) (hc:xr ρ (lev E x) cs (E b).2 o) (hl:cs.length<=(E b).2) :
  Sat ds n E0 ρ0 w0 ρ E { Z with bx:=Z.bx.set b (some { x with cs:=cs }) } a w':=by
 have h1:=hs.zu (w':={ w with heap:=w'.heap.setIfInBounds (E b).1 ((w.heap[(E b).1]?).getD o) }) (RO.le_refl ρ) (fun k o' hr=>by
   have hko:=hs.ro k o' hr;have hkl:k<w.heap.size:=(Array.getElem?_eq_some_iff.1 hko).1;have hne:(E b).1≠k:=by
    rintro rfl;rw[hs.sep b _ (yu hb) hk] at hr;cases hr
   show (w'.heap.setIfInBounds _ _)[k]? = _;rw[Array.getElem?_setIfInBounds_ne hne,hfr k hkl (fun e=>hne e.symm)];exact hko) (fun k o' h1 h2=>by rw[h1] at h2;cases h2) (fun k hkl=>by
   show (w'.heap.setIfInBounds _ _)[k]? = _;by_cases he:(E b).1=k
   ·subst he;rw[Array.getElem?_setIfInBounds_self_of_lt (by omega),Array.getElem?_eq_getElem hkl];rfl
   ·rw[Array.getElem?_setIfInBounds_ne he,hfr k hkl (fun e=>he e.symm)]) (by show _<=(w'.heap.setIfInBounds _ _).size;rw[Array.size_setIfInBounds];exact hsz) rfl rfl rfl
 refine h1.zR hb hk ⟨ho,ht,hou,by show (w'.heap.setIfInBounds _ _).size<=_;rw[Array.size_setIfInBounds];exact Nat.le_refl _,fun k hne=>?_⟩ hB hc hl;show _=(w'.heap.setIfInBounds _ _)[k]?;rw[Array.getElem?_setIfInBounds_ne (fun e=>hne e.symm)]
theorem Hl {ρ:RO} {lv:Option Lay} {zs:List Int} {c:Array Value} (h:RvC ρ lv (zs.map (AV.int .i64)) c) {j:Nat} (hj:j<zs.length):c.getD j Go.undef=.int .i64 (zs.getD j 0):=by
 have h1:=h j;have e:(zs.map (AV.int .i64)).getD j .undef=.int .i64 (zs.getD j 0):=by simp[List.getD,hj]
 rw[e] at h1;generalize c.getD j Go.undef=v at h1 ⊢;cases h1;rfl
theorem LL {P:Program} {f:FuncId} {args:List AV} {vs:Array Value} {b len:Nat} {d:Option Nat} {K:St->Prop} (hs:Sat ds n E0 ρ0 w0 ρ E Z a w) (hargs:Rvs ρ (some E) args vs) (hm:Wq args=some (b,len)) (h:LK P (yv P frs il) f b len d Z K) :
  (callFunc f vs).run P w=.ok (.enter f vs) w/\Calls P f vs w (fun e w'=>∃cv,e=.returned cv/\∃ρ' E' Z',Sat ds n E0 ρ0 w0 ρ' E' Z' (a.put d cv) w'/\K Z'):=by
 have hargs':=hargs;rw[UT hm] at hargs';obtain ⟨hl1,hr1⟩:=hargs';have hv:Rv ρ (some E) (.aslc b 0 len 1 false) (vs.getD 0 Go.undef):=hr1 0;have hvs:vs=#[vs.getD 0 Go.undef]:=by
  match vs,hl1 with
  |⟨[x]⟩,_=>rfl
 unfold LK at h;split at h
 case h_2=>exact h.elim
 rename_i x hb;split at h
 case isFalse=>exact h.elim
 rename_i harr;have key:∀k v,(∃zs zs':List Int,(x.cs=zs.map (AV.int .i64)/\zs.length=len/\0<len/\zs'.length=len/\(yv P frs il).fresh f [.tup (zs.map (AV.int .i64))] k (zs'.map (AV.int .i64)))/\K ({ Z with bx:=Z.bx.set b (some { x with cs:=zs'.map (AV.int .i64) }) }.put d v)) ->
   (∀cap,len<=cap->cap=(E b).2->Rv ρ (some E) v (match k with
   |0=>.tuple #[]
   |m+1=>.slice (some ⟨(E b).1,0,none⟩) m cap)) ->
   (callFunc f vs).run P w=.ok (.enter f vs) w/\Calls P f vs w (fun e w'=>∃cv,e=.returned cv/\∃ρ' E' Z',Sat ds n E0 ρ0 w0 ρ' E' Z' (a.put d cv) w'/\K Z'):=by
  rintro k v ⟨zs,zs',⟨hcs,hzl,h0,hzl',hfr⟩,hK⟩ hrv;have hmut:NZ P f (zs.map (AV.int .i64)) k (zs'.map (AV.int .i64)):=hfr;refine⟨hmut.enter vs w,?_⟩;generalize hv0:vs.getD 0 Go.undef=v0 at hv hvs;cases hv with
  |aslc0=>omega
  |aslc _ _ _ _ _ _ cap hcap hr =>
   have hk:(E b).2≠0:=by omega
   obtain ⟨hlen,hblk⟩:=hs.box b x hb;rcases hblk with h0' | ⟨o,ho,hobj⟩
   ·exact absurd h0' hk
   obtain ⟨c,e,rfl,hcsz,hcr⟩:=hobj.get (xC harr _);rw[hcs] at hcr;have hlt:(E b).1<w.heap.size:=(Array.getElem?_eq_some_iff.1 ho).1;subst hzl;rw[hvs];refine(hmut.run zs zs' w (E b).1 cap c e rfl rfl h0 hzl' ho hcap (by omega) (fun j hj=>Hl hcr hj)).mono fun en w' ⟨he,g1,g2,g3,g4,g5,c',g6,g7,g8⟩=>?_
   refine⟨_,he,ρ,E,_,?_,hK⟩;refine(hs.yb hb hk hlt g1 g2 g3 g4 g5 g6 (.cells (xC harr _) (by omega) fun j=>?_) (by rw[List.length_map];omega)).put (hrv cap hcap (by omega));by_cases hj:j<zs.length
   ·rw[g8 j hj];have e:(zs'.map (AV.int .i64)).getD j .undef=.int .i64 (zs'.getD j 0):=by simp[List.getD,show j<zs'.length by omega]
    rw[e];exact .int ..
   ·rw[yO (by rw[List.length_map];omega)];exact .undef ..
 unfold JK at h;split at h
 ·exact key _ _ h fun _ _ _=>.tup _ _ _ rfl fun j=>by
   cases j<;>exact .undef ..
 ·obtain ⟨m,hm',h⟩:=h;exact key _ _ h fun cap h1 h2=>.aslc _ _ _ _ _ _ _ (by omega) (by omega)
 ·exact h.elim
theorem PB (ws:List Int):(ws.map (AV.int .i64)).flatMap AV.cells=ws.map (AV.int .i64):=by
 induction ws with
 |nil=>rfl
 |cons w r ih=>simp only[List.map_cons,List.flatMap_cons,ih];rfl
theorem PC (ws:List Int) (j:Nat) (hj:j<(ws.map (AV.int .i64)).length):((ws.map (AV.int .i64)).getD j .undef).plain=true:=by
 rw[List.length_map] at hj;simp[List.getD,hj,AV.plain]
theorem OY {P:Program} {f:FuncId} {args:List AV} {vs:Array Value} {b len:Nat} {d:Option Nat} {K:St->Prop} (hs:Sat ds n E0 ρ0 w0 ρ E Z a w) (hargs:Rvs ρ (some E) args vs) (hm:Wq args=some (b,len)) (h:T1 P (yv P frs il) n f b len d Z K) :
  (callFunc f vs).run P w=.ok (.enter f vs) w/\Calls P f vs w (fun e w'=>∃cv,e=.returned cv/\∃ρ' E' Z',Sat ds n E0 ρ0 w0 ρ' E' Z' (a.put d cv) w'/\K Z'):=by
 rw[UT hm] at hargs;unfold T1 at h;split at h
 case h_2=>exact h.elim
 rename_i d e x he hx;split at h
 case isFalse=>exact h.elim
 rename_i harr;obtain ⟨zs,ws,⟨hlen,hones,htake,hfr⟩,hK⟩:=h;have hfr:qG P f [.slc 3 (zs.map (AV.int .i64))] (P.cellsOf e) (ws.map (AV.int .i64)):=hfr;obtain ⟨henter,hspec⟩:=T9 hfr rfl;refine⟨henter vs w,?_⟩;have hbN:Z.zh b=some x.cs:=by unfold St.zh;rw[hx];simp only;rw[if_neg (by unfold Bx.mp;rw[if_pos harr];simp),if_pos harr]
 have hzl:zs.length=len:=by have:=congrArg List.length htake;simp only[List.length_take,List.length_map] at this;omega
 let ρc:RO:=fun k=>if (E b).2≠0/\k=(E b).1 then w.heap[k]? else ρ k
 have hle:ρ.le ρc:=by
  intro k o hk;simp only[ρc];split
  ·rename_i hc;rw[hs.ro k o hk]
  ·exact hk
 have hroc:∀k o,ρc k=some o->w.heap[k]? = some o:=by
  intro k o hk;simp only[ρc] at hk;split at hk
  ·exact hk
  ·exact hs.ro k o hk
 have hargs':Rvs ρc none [.slc 3 (zs.map (AV.int .i64))] vs:=by
  refine⟨hargs.1,fun j=>?_⟩;cases j with
  |succ j=>exact .undef ..
  |zero =>
   have hv:Rv ρ (some E) (.aslc b 0 len 1 false) (vs.getD 0 Go.undef):=hargs.2 0;have h1:=hs.snap (ρc:=ρc) hle (snaps:=[b]) (fun b' x' hb' hx' hk=>by
    rw[List.mem_singleton] at hb';subst hb';simp only[ρc];rw[if_pos ⟨hk,trivial⟩]) hv (fun t ht=>by
     simp only[AV.zf,List.mem_singleton] at ht;subst ht;refine⟨by simp,fun cs hcs=>?_⟩;simp only at hcs;rw[hbN] at hcs;cases hcs;simp only;exact⟨by omega,fun _=>⟨trivial,hones⟩⟩)
   simp only[AV.snap,hbN] at h1;have:chunks 1 false len (x.cs.drop 0)=zs.map (AV.int .i64):=by simp only[chunks,List.drop_zero,if_neg (Bool.false_ne_true),htake]
   rw[this] at h1;exact h1.zm rfl
 refine(hspec ρc w vs ((hs.gl.mono hs.le).mono hle) hroc hargs').mono fun en w' hg=>?_
 obtain ⟨⟨ρ',B,κ,cv,rfl,gle,gro,gnew,gv,gB,gBs,gl,gblk⟩,gframe,gsize,gos,gtape,gout⟩:=hg;rw[PB] at gl gblk;rw[List.length_map] at gl;have hlt:∀k o,ρ k=some o->k<w.heap.size:=fun k o hk=>(Array.getElem?_eq_some_iff.1 (hs.ro k o hk)).1
 have gB':ρ B=none:=by
  cases hb:ρ B with
  |none=>rfl
  |some o=>have:=hlt _ _ hb;omega
 refine⟨cv,rfl,ρ,wK E (n+d) (B,κ),?_⟩;have hs':=hs.zu (RO.le_refl ρ) (fun k o hk=>by rw[gframe k (hlt k o hk)];exact hs.ro k o hk) (fun k o h1 h2=>by rw[h1] at h2;cases h2) gframe gsize gos gtape gout;simp only[qS] at hK;split at hK
 case isFalse=>exact hK.elim
 rename_i hc;simp only[Bool.and_eq_true,decide_eq_true_eq] at hc;obtain ⟨⟨⟨⟨c0,c1⟩,c2⟩,c3⟩,c4⟩:=hc;refine⟨_,?_,hK⟩;have hold:∀b cs,Z.box b=some cs->(E b).2≠0->(E b).1<w.heap.size:=by
  intro b cs hb hk;obtain ⟨y,hy,rfl⟩:=yT hb;rcases (hs.box b y hy).blk with h0 | ⟨o,h,_⟩
  ·exact absurd h0 hk
  ·exact(Array.getElem?_eq_some_iff.1 h).1
 have hp:Rv ρ (some (wK E (n+d) (B,κ))) (.aslc (n+d) 0 ws.length (P.cellsOf e) (yp P e)) cv:=by
  have h1:=gv (yp P e);rw[List.length_map] at h1;have hu:wK E (n+d) (B,κ) (n+d)=(B,κ):=by simp[wK]
  generalize hm:(some fun _=>(B,κ):Option Lay)=m at h1;generalize hx:(AV.aslc 0 0 ws.length (P.cellsOf e) (yp P e))=x at h1;cases h1 with
  |aslc m b off len esz ag cap hcap hr =>
   cases hm;cases hx;have:=Rv.aslc (ρ:=ρ) (wK E (n+d) (B,κ)) (n+d) 0 ws.length (P.cellsOf e) (yp P e) cap hcap (by rw[hu];exact hr);rw[hu] at this;exact this
  |aslc0 m b esz ag p hz =>
   cases hm;simp only[AV.aslc.injEq] at hx;rw[hx.2.2.1];exact .aslc0 _ _ _ _ p (by rw[hu];exact hz)
  |_=>cases hx
 rcases gblk with h0 | ⟨c,ty,g1,g2,g3⟩
 ·exact hs'.zp (o:=.cells #[] e (0,0)) c1 (by simp[Bx.refs]) c3 c4 (qw.refl B w') (.inl h0) (by rw[List.length_map];exact gl) (fun b cs hb hbox hk he=>by have:=hold b cs hbox hk;omega) gB' (.inl (Nat.le_trans hs.size gBs)) hp
 ·refine hs'.zp (o:=.cells c ty (0,0)) c1 (by simp[Bx.refs]) c3 c4 (qw.refl B w') (.inr ⟨g1,.cells (xC rfl _) g2 (fun j=>?_)⟩) (by rw[List.length_map];exact gl) (fun b cs hb hbox hk he=>by have:=hold b cs hbox hk;omega) gB' (.inl (Nat.le_trans hs.size gBs)) hp;by_cases hj:j<(ws.map (AV.int .i64)).length
  ·exact(g3 j).zz (PC ws j hj)
  ·rw[yO (Nat.le_of_not_lt hj)];exact .undef ..
theorem OT {P:Program} {f:FuncId} {args:List AV} {vs:Array Value} {d:Option Nat} {K:St->Prop} (hs:Sat ds n E0 ρ0 w0 ρ E Z a w) (hargs:Rvs ρ (some E) args vs) (h:Xi P (yv P frs il) n f args d Z K) :
  (callFunc f vs).run P w=.ok (.enter f vs) w/\Calls P f vs w (fun e w'=>∃cv,e=.returned cv/\∃ρ' E' Z',Sat ds n E0 ρ0 w0 ρ' E' Z' (a.put d cv) w'/\K Z'):=by
 unfold Xi at h;split at h
 ·rename_i b len hm;split at h
  ·exact OY hs hargs hm h
  ·exact LL hs hargs hm h
 split at h
 case h_2=>exact h.elim
 rename_i d e he;split at h
 case isFalse=>exact h.elim
 rename_i htt;rw[Bool.and_eq_true] at htt;obtain ⟨htree,htup⟩:=htt;obtain ⟨es,hfr,hK⟩:=h;obtain ⟨henter,hspec⟩:=T9 hfr (Nv htup);refine⟨henter vs w,?_⟩;have hargs':Rvs ρ none (args.map AV.zx) vs:=by
  refine⟨by rw[List.length_map];exact hargs.1,fun j=>?_⟩;rw[LO];exact((hargs.2 j).zm (jd htree j)).zx
 refine(hspec ρ w vs (hs.gl.mono hs.le) hs.ro hargs').mono fun en w' hg=>?_
 obtain ⟨⟨ρ',B,κ,cv,rfl,gle,gro,gnew,gv,gB,gBs,gl,gblk⟩,gframe,gsize,gos,gtape,gout⟩:=hg;refine⟨cv,rfl,ρ',wK E (n+d) (B,κ),?_⟩;have hs':=hs.zu gle gro gnew gframe gsize gos gtape gout;simp only[qS] at hK;split at hK
 case isFalse=>exact hK.elim
 rename_i hc;simp only[Bool.and_eq_true,decide_eq_true_eq] at hc;obtain ⟨⟨⟨⟨c0,c1⟩,c2⟩,c3⟩,c4⟩:=hc;refine⟨_,?_,hK⟩;have hold:∀b cs,Z.box b=some cs->(E b).2≠0->(E b).1<w.heap.size:=by
  intro b cs hb hk;obtain ⟨y,hy,rfl⟩:=yT hb;rcases (hs.box b y hy).blk with h0 | ⟨o,h,_⟩
  ·exact absurd h0 hk
  ·exact(Array.getElem?_eq_some_iff.1 h).1
 have hp:Rv ρ' (some (wK E (n+d) (B,κ))) (.aslc (n+d) 0 es.length (P.cellsOf e) (yp P e)) cv:=by
  have h1:=gv (yp P e);have hu:wK E (n+d) (B,κ) (n+d)=(B,κ):=by simp[wK]
  generalize hm:(some fun _=>(B,κ):Option Lay)=m at h1;generalize hx:(AV.aslc 0 0 es.length (P.cellsOf e) (yp P e))=x at h1;cases h1 with
  |aslc m b off len esz ag cap hcap hr =>
   cases hm;cases hx;have:=Rv.aslc (ρ:=ρ') (wK E (n+d) (B,κ)) (n+d) 0 es.length (P.cellsOf e) (yp P e) cap hcap (by rw[hu];exact hr);rw[hu] at this;exact this
  |aslc0 m b esz ag p hz =>
   cases hm;simp only[AV.aslc.injEq] at hx;rw[hx.2.2.1];exact .aslc0 _ _ _ _ p (by rw[hu];exact hz)
  |_=>cases hx
 rcases gblk with h0 | ⟨c,ty,g1,g2,g3⟩
 ·exact hs'.zp (o:=.cells #[] e (0,0)) c1 (by simp[Bx.refs]) c3 c4 (qw.refl B w') (.inl h0) gl (fun b cs hb hbox hk he=>by have:=hold b cs hbox hk;omega) gB (.inl (Nat.le_trans hs.size gBs)) hp
 ·exact hs'.zp (o:=.cells c ty (0,0)) c1 (by simp[Bx.refs]) c3 c4 (qw.refl B w') (.inr ⟨g1,.cells (xC rfl _) g2 (by unfold lev;rw[if_pos rfl];exact g3)⟩) gl (fun b cs hb hbox hk he=>by have:=hold b cs hbox hk;omega) gB (.inl (Nat.le_trans hs.size gBs)) hp
end
end Go.Proofs.YtdeeekgohhkdbaaGreatDoor

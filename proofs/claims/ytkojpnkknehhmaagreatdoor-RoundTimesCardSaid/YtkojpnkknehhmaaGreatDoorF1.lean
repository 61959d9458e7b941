/- Calls of functions that return a slice of new memory. -/
import Derived.Test.YtkojpnkknehhmaaGreatDoorR13
namespace Go.Proofs.YtkojpnkknehhmaaGreatDoor
open Go.RowKit
section
variable {frs:Ways} {il:vZ} {ds:List Deferred} {n:Nat} {μ0:Lay} {ρ0:RO} {w0:World} {ρ:RO} {μ:Lay} {σ:St} {a:Act} {w:World}
theorem ON {args:List AV} (h:Pt args=true):Pt (args.map AV.zw)=true:=by
 cases args with
 |nil=>rfl
 |cons x r =>
  show (!Pc x.zw)=true;unfold AV.zw;split
  ·rfl
  ·cases x<;>first | (simp only[AV.norm,Pc];done) | (simp only[AV.norm,Pc];rfl) | cases h
theorem Rv.zw {ρ:RO} {μ:Option Lay} {v:AV} {cv:Value} (hv:Rv ρ μ v cv):Rv ρ μ v.zw cv:=by
 unfold AV.zw;split
 ·exact hv
 ·exact hv.norm
theorem M3 (l:List AV) (j:Nat):(l.map AV.zw).getD j .undef=(l.getD j .undef).zw:=by
 rw[List.getD_eq_getElem?_getD,List.getD_eq_getElem?_getD,List.getElem?_map];cases l[j]?<;>rfl
theorem OC {args:List AV} {b len:Nat} (h:Us args=some (b,len)):args=[.aslc b 0 len 1 false]:=by
 unfold Us at h;split at h
 ·cases h;rfl
 ·cases h
theorem Sat.zX (hs:Sat ds n μ0 ρ0 w0 ρ μ σ a w) {b:Nat} {x:Bx} {cs:List AV} {w':World} {o:Obj} (hb:σ.bx.getD b none=some x) (hk:(μ b).2≠0) (hlt:(μ b).1<w.heap.size)
  (ho:w'.os=w.os) (ht:w'.tape=w.tape) (hou:w'.output=w.output) (hsz:w.heap.size<=w'.heap.size) (hfr:∀i,i<w.heap.size->i≠(μ b).1->w'.heap[i]? = w.heap[i]?)
  (hB:w'.heap[(μ b).1]? = some o) (hc:ub ρ (lev μ x) cs (μ b).2 o) (hl:cs.length<=(μ b).2) :
  Sat ds n μ0 ρ0 w0 ρ μ { σ with bx:=σ.bx.set b (some { x with cs:=cs }) } a w':=by
 have h1:=hs.zv (w':={ w with heap:=w'.heap.setIfInBounds (μ b).1 ((w.heap[(μ b).1]?).getD o) }) (RO.le_refl ρ) (fun k o' hr=>by
   have hko:=hs.ro k o' hr;have hkl:k<w.heap.size:=(Array.getElem?_eq_some_iff.1 hko).1;have hne:(μ b).1≠k:=by
    rintro rfl;rw[hs.sep b _ (yi hb) hk] at hr;cases hr
   show (w'.heap.setIfInBounds _ _)[k]? = _;rw[Array.getElem?_setIfInBounds_ne hne,hfr k hkl (fun e=>hne e.symm)];exact hko) (fun k o' h1 h2=>by rw[h1] at h2;cases h2) (fun k hkl=>by
   show (w'.heap.setIfInBounds _ _)[k]? = _;by_cases he:(μ b).1=k
   ·subst he;rw[Array.getElem?_setIfInBounds_self_of_lt (by omega),Array.getElem?_eq_getElem hkl];rfl
   ·rw[Array.getElem?_setIfInBounds_ne he,hfr k hkl (fun e=>he e.symm)]) (by show _<=(w'.heap.setIfInBounds _ _).size;rw[Array.size_setIfInBounds];exact hsz) rfl rfl rfl
 refine h1.zP hb hk ⟨ho,ht,hou,by show (w'.heap.setIfInBounds _ _).size<=_;rw[Array.size_setIfInBounds];exact Nat.le_refl _,fun k hne=>?_⟩ hB hc hl;show _=(w'.heap.setIfInBounds _ _)[k]?;rw[Array.getElem?_setIfInBounds_ne (fun e=>hne e.symm)]
theorem IG {ρ:RO} {lv:Option Lay} {zs:List Int} {c:Array Value} (h:RvC ρ lv (zs.map (AV.int .i64)) c) {j:Nat} (hj:j<zs.length):c.getD j Go.undef=.int .i64 (zs.getD j 0):=by
 have h1:=h j;have e:(zs.map (AV.int .i64)).getD j .undef=.int .i64 (zs.getD j 0):=by simp[List.getD,hj]
 rw[e] at h1;generalize c.getD j Go.undef=v at h1 ⊢;cases h1;rfl
theorem MZ {P:Program} {f:FuncId} {args:List AV} {vs:Array Value} {b len:Nat} {d:Option Nat} {K:St->Prop} (hs:Sat ds n μ0 ρ0 w0 ρ μ σ a w) (hargs:Rvs ρ (some μ) args vs) (hm:Us args=some (b,len)) (h:MY P (yj P frs il) f b len d σ K) :
  (callFunc f vs).run P w=.ok (.enter f vs) w/\Calls P f vs w (fun e w'=>∃cv,e=.returned cv/\∃ρ' μ' σ',Sat ds n μ0 ρ0 w0 ρ' μ' σ' (a.put d cv) w'/\K σ'):=by
 have hargs':=hargs;rw[OC hm] at hargs';obtain ⟨hl1,hr1⟩:=hargs';have hv:Rv ρ (some μ) (.aslc b 0 len 1 false) (vs.getD 0 Go.undef):=hr1 0;have hvs:vs=#[vs.getD 0 Go.undef]:=by
  match vs,hl1 with
  |⟨[x]⟩,_=>rfl
 unfold MY at h;split at h
 case h_2=>exact h.elim
 rename_i x hb;split at h
 case isFalse=>exact h.elim
 rename_i harr;have key:∀k v,(∃zs zs':List Int,(x.cs=zs.map (AV.int .i64)/\zs.length=len/\0<len/\zs'.length=len/\(yj P frs il).fresh f [.tup (zs.map (AV.int .i64))] k (zs'.map (AV.int .i64)))/\K ({ σ with bx:=σ.bx.set b (some { x with cs:=zs'.map (AV.int .i64) }) }.put d v)) ->
   (∀cap,len<=cap->cap<=(μ b).2->Rv ρ (some μ) v (match k with
   |0=>.tuple #[]
   |m+1=>.slice (some ⟨(μ b).1,0,none⟩) m cap)) ->
   (callFunc f vs).run P w=.ok (.enter f vs) w/\Calls P f vs w (fun e w'=>∃cv,e=.returned cv/\∃ρ' μ' σ',Sat ds n μ0 ρ0 w0 ρ' μ' σ' (a.put d cv) w'/\K σ'):=by
  rintro k v ⟨zs,zs',⟨hcs,hzl,h0,hzl',hfr⟩,hK⟩ hrv;have hmut:Ng P f (zs.map (AV.int .i64)) k (zs'.map (AV.int .i64)):=hfr;refine⟨hmut.enter vs w,?_⟩;generalize hv0:vs.getD 0 Go.undef=v0 at hv hvs;cases hv with
  |aslc0=>omega
  |aslc _ _ _ _ _ _ cap hcap hr =>
   have hk:(μ b).2≠0:=by omega
   obtain ⟨hlen,hblk⟩:=hs.box b x hb;rcases hblk with h0' | ⟨o,ho,hobj⟩
   ·exact absurd h0' hk
   obtain ⟨c,e,rfl,hcsz,hcr⟩:=hobj.get (uH harr _);rw[hcs] at hcr;have hlt:(μ b).1<w.heap.size:=(Array.getElem?_eq_some_iff.1 ho).1;subst hzl;rw[hvs];refine(hmut.run zs zs' w (μ b).1 cap c e rfl rfl h0 hzl' ho hcap (by omega) (fun j hj=>IG hcr hj)).mono fun en w' ⟨he,g1,g2,g3,g4,g5,c',g6,g7,g8⟩=>?_
   refine⟨_,he,ρ,μ,_,?_,hK⟩;refine(hs.zX hb hk hlt g1 g2 g3 g4 g5 g6 (.cells (uH harr _) (by omega) fun j=>?_) (by rw[List.length_map];omega)).put (hrv cap hcap (by omega));by_cases hj:j<zs.length
   ·rw[g8 j hj];have e:(zs'.map (AV.int .i64)).getD j .undef=.int .i64 (zs'.getD j 0):=by simp[List.getD,show j<zs'.length by omega]
    rw[e];exact .int ..
   ·rw[yH (by rw[List.length_map];omega)];exact .undef ..
 unfold K7 at h;split at h
 ·exact key _ _ h fun _ _ _=>.tup _ _ _ rfl fun j=>by
   cases j<;>exact .undef ..
 ·obtain ⟨m,hm',h⟩:=h;exact key _ _ h fun cap h1 h2=>.aslc _ _ _ _ _ _ _ (by omega) (by omega)
 ·exact h.elim
theorem Od {P:Program} {f:FuncId} {args:List AV} {vs:Array Value} {d:Option Nat} {K:St->Prop} (hs:Sat ds n μ0 ρ0 w0 ρ μ σ a w) (hargs:Rvs ρ (some μ) args vs) (h:Y3 P (yj P frs il) n f args d σ K) :
  (callFunc f vs).run P w=.ok (.enter f vs) w/\Calls P f vs w (fun e w'=>∃cv,e=.returned cv/\∃ρ' μ' σ',Sat ds n μ0 ρ0 w0 ρ' μ' σ' (a.put d cv) w'/\K σ'):=by
 unfold Y3 at h;split at h
 ·rename_i b len hm;exact MZ hs hargs hm h
 split at h
 case h_2=>exact h.elim
 rename_i d e he;split at h
 case isFalse=>exact h.elim
 rename_i htt;rw[Bool.and_eq_true] at htt;obtain ⟨htree,htup⟩:=htt;obtain ⟨es,hfr,hK⟩:=h;obtain ⟨henter,hspec⟩:=ME hfr (ON htup);refine⟨henter vs w,?_⟩;have hargs':Rvs ρ none (args.map AV.zw) vs:=by
  refine⟨by rw[List.length_map];exact hargs.1,fun j=>?_⟩;rw[M3];exact((hargs.2 j).zn (qU htree j)).zw
 refine(hspec ρ w vs (hs.gl.mono hs.le) hs.ro hargs').mono fun en w' hg=>?_
 obtain ⟨⟨ρ',B,κ,cv,rfl,gle,gro,gnew,gv,gB,gBs,gl,gblk⟩,gframe,gsize,gos,gtape,gout⟩:=hg;refine⟨cv,rfl,ρ',vt μ (n+d) (B,κ),?_⟩;have hs':=hs.zv gle gro gnew gframe gsize gos gtape gout;simp only[qV] at hK;split at hK
 case isFalse=>exact hK.elim
 rename_i hc;simp only[Bool.and_eq_true,decide_eq_true_eq] at hc;obtain ⟨⟨⟨⟨c0,c1⟩,c2⟩,c3⟩,c4⟩:=hc;refine⟨_,?_,hK⟩;have hold:∀b cs,σ.box b=some cs->(μ b).2≠0->(μ b).1<w.heap.size:=by
  intro b cs hb hk;obtain ⟨y,hy,rfl⟩:=yK hb;rcases (hs.box b y hy).blk with h0 | ⟨o,h,_⟩
  ·exact absurd h0 hk
  ·exact(Array.getElem?_eq_some_iff.1 h).1
 have hp:Rv ρ' (some (vt μ (n+d) (B,κ))) (.aslc (n+d) 0 es.length (P.cellsOf e) (yf P e)) cv:=by
  have h1:=gv (yf P e);have hu:vt μ (n+d) (B,κ) (n+d)=(B,κ):=by simp[vt]
  generalize hm:(some fun _=>(B,κ):Option Lay)=m at h1;generalize hx:(AV.aslc 0 0 es.length (P.cellsOf e) (yf P e))=x at h1;cases h1 with
  |aslc m b off len esz ag cap hcap hr =>
   cases hm;cases hx;have:=Rv.aslc (ρ:=ρ') (vt μ (n+d) (B,κ)) (n+d) 0 es.length (P.cellsOf e) (yf P e) cap hcap (by rw[hu];exact hr);rw[hu] at this;exact this
  |aslc0 m b esz ag p =>
   cases hm;simp only[AV.aslc.injEq] at hx;rw[hx.2.2.1];exact .aslc0 _ _ _ _ p
  |_=>cases hx
 rcases gblk with h0 | ⟨c,ty,g1,g2,g3⟩
 ·exact hs'.zt (o:=.cells #[] e (0,0)) c1 (by simp[Bx.refs]) c3 c4 (qH.refl B w') (.inl h0) gl (fun b cs hb hbox hk he=>by have:=hold b cs hbox hk;omega) gB (.inl (Nat.le_trans hs.size gBs)) hp
 ·exact hs'.zt (o:=.cells c ty (0,0)) c1 (by simp[Bx.refs]) c3 c4 (qH.refl B w') (.inr ⟨g1,.cells (uH rfl _) g2 (by unfold lev;rw[if_pos rfl];exact g3)⟩) gl (fun b cs hb hbox hk he=>by have:=hold b cs hbox hk;omega) gB (.inl (Nat.le_trans hs.size gBs)) hp
end
end Go.Proofs.YtkojpnkknehhmaaGreatDoor

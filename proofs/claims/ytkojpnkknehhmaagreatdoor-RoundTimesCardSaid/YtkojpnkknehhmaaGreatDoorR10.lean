/- Append and new boxes. New variables, literals of slices, make; calls. -/
import Derived.Test.YtkojpnkknehhmaaGreatDoorR8
import Derived.IntWalk
import Derived.RangeFuncSeq
namespace Go.Proofs.YtkojpnkknehhmaaGreatDoor
open Go.IntKind (wrap i64 u64)
open Go.RowKit
theorem OV {N m:Nat} (h:m<N) (g:Nat->Value):(((List.range N).map g).toArray).getD m Go.undef=g m:=by simp[Array.getD,h]
theorem dm {i k j:Nat} (hj:j<k):(i*k+j) / k=i/\(i*k+j) % k=j:=by
 constructor
 ·rw[Nat.add_comm,Nat.add_mul_div_right _ _ (by omega),Nat.div_eq_of_lt hj];omega
 ·rw[Nat.add_comm,Nat.add_mul_mod_self_right,Nat.mod_eq_of_lt hj]
theorem Tj {k:Nat}:∀ {es:List AV},(∀i,i<es.length->(es.getD i .undef).cells.length=k)->(es.flatMap AV.cells).length=es.length*k /\
  ∀i,i<es.length->∀j,j<k->(es.flatMap AV.cells).getD (i*k+j) .undef=(es.getD i .undef).cells.getD j .undef:=by
 intro es;induction es with
 |nil=>intro _;exact⟨by simp,fun i hi=>by simp at hi⟩
 |cons x r ih =>
  intro h;have hx:x.cells.length=k:=h 0 (by simp);obtain ⟨h1,h2⟩:=ih (fun i hi=>h (i+1) (by simpa using hi));refine⟨?_,fun i hi j hj=>?_⟩
  ·simp only[List.flatMap_cons,List.length_append,h1,hx,List.length_cons,Nat.add_mul,Nat.one_mul];omega
  ·simp only[List.flatMap_cons,List.getD,List.getElem?_append,hx];cases i with
   |zero=>rw[if_pos (by omega)];simp
   |succ i =>
    have:(i+1)*k+j=k+(i*k+j):=by rw[Nat.add_mul];omega
    rw[if_neg (by omega),this,Nat.add_sub_cancel_left];have:=h2 i (by simpa using hi) j hj;simpa[List.getD] using this
section
variable {ds:List Deferred} {n:Nat} {μ0:Lay} {ρ0:RO} {w0:World} {ρ:RO} {μ:Lay} {σ:St} {a:Act} {w:World}
theorem Sat.zO (hs:Sat ds n μ0 ρ0 w0 ρ μ σ a w) {b:Nat} {cs:List AV} (hb:σ.zg b=some cs) :
  ∃f:Nat->Value,(∀j,j<cs.length->w.cell? ⟨(μ b).1,0+j,none⟩=some (f j))/\∀j,Rv ρ none (cs.getD j .undef) (f j):=by
 unfold St.zg at hb;split at hb
 ·rename_i x hx;split at hb
  ·cases hb
  rename_i hm;obtain ⟨f,h1,h2⟩:=hs.cells hx (by simpa using hm);split at hb
  ·rename_i ha;cases hb;refine⟨f,h1,fun j=>?_⟩;have:=h2 j;unfold lev at this;rw[if_pos ha] at this;exact this
  ·split at hb
   ·rename_i ht;cases hb;exact⟨f,by rw[yu];exact h1,fun j=>by rw[yP];exact((h2 j).zm.zn (qU ht j)).norm⟩
   ·cases hb
 ·cases hb
theorem xo {P:Program} {k:Nat} {x:AV} {cx:Value} {K:Nat->List AV->Prop} (hs:Sat ds n μ0 ρ0 w0 ρ μ σ a w) (hx:Rv ρ (some μ) x cx) (h:qz σ k x K) :
  ∃nx cs arr p cap,cx=.slice p nx cap/\cs.length=nx*k/\arr.size=nx*k/\RvC ρ none cs arr /\
   (∀d,(Builtin.firstCells k nx cx).run P { w with drawn:=d }=.ok arr { w with drawn:=d })/\K nx cs:=by
 unfold qz at h;split at h
 ·rename_i m es;obtain ⟨hel,hK⟩:=h;have hk':∀i,i<es.length->(es.getD i .undef).cells.length=k:=by
   intro i hi;refine hel _ ?_;simp only[List.getD,List.getElem?_eq_getElem hi,Option.getD_some];exact List.getElem_mem hi
  obtain ⟨f1,f2⟩:=Tj hk';cases hx with
  |nilslc=>exact⟨0,[],#[],none,0,rfl,by simp,by simp,fun j=>.undef ..,fun d=>rfl,by simpa using hK⟩
  |eslc _ _ a0=>exact⟨0,[],#[],some a0,0,rfl,by simp,by simp,fun j=>.undef ..,fun d=>by simp[Builtin.firstCells,loadCells,loadCellsFrom],by simpa using hK⟩
  |slc _ _ _ B o cap kk c hm hcap h2 hk hc hh =>
   by_cases hz:es=[]
   ·subst hz;exact⟨0,[],#[],_,cap,rfl,by simp,by simp,fun j=>.undef ..,fun d=>by simp[Builtin.firstCells,loadCells,loadCellsFrom],by simpa using hK⟩
   have hpos:0<es.length:=List.length_pos_iff.2 hz;have hkk:kk=k:=by rw[<- hk 0 hpos,hk' 0 hpos]
   subst hkk;have hcell:∀m,m<es.length*kk->∃i j,m=i*kk+j/\i<es.length/\j<kk:=by
    intro m hm;have hkp:0<kk:=by
     rcases Nat.eq_zero_or_pos kk with h | h
     ·subst h;omega
     ·exact h
    exact⟨m / kk,m % kk,by rw[Nat.mul_comm];exact(Nat.div_add_mod m kk).symm,Nat.div_lt_of_lt_mul (by rwa[Nat.mul_comm]),Nat.mod_lt _ hkp⟩
   refine⟨es.length,es.flatMap AV.cells,((List.range (es.length*kk)).map fun m=>c (m / kk) (m % kk)).toArray,_,cap,rfl,f1,by simp,?_,?_,hK⟩
   ·intro m;rcases Nat.lt_or_ge m (es.length*kk) with hm | hm
    ·obtain ⟨i,j,rfl,hi,hj⟩:=hcell m hm;obtain ⟨e1,e2⟩:=dm (i:=i) hj;have h1:(((List.range (es.length*kk)).map fun m=>c (m / kk) (m % kk)).toArray).getD (i*kk+j) Go.undef=c i j:=by
      rw[OV hm];simp only[e1,e2]
     rw[h1,f2 i hi j hj];exact hh i j
    ·rw[yH (by omega)];exact .undef ..
   ·intro d;simp only[Builtin.firstCells];refine run_loadCells _ _ _ (fun m=>c (m / kk) (m % kk)) (fun m hm=>?_);obtain ⟨i,j,rfl,hi,hj⟩:=hcell m hm;obtain ⟨e1,e2⟩:=dm (i:=i) hj;rw[qX,e1,e2,<- Nat.add_assoc];exact Yu hs.ro (hc i hi j hj)
 ·rename_i b off len esz ag;split at h
  ·rename_i cs hb;obtain ⟨⟨rfl,hfit⟩,hK⟩:=h;obtain ⟨f,g1,g2⟩:=hs.zO hb;cases hx with
   |aslc0=>exact⟨0,[],#[],_,0,rfl,by simp,by simp,fun j=>.undef ..,fun d=>by cases ‹Option Addr›<;>simp[Builtin.firstCells,loadCells,loadCellsFrom],by simpa using hK⟩
   |aslc _ _ _ _ _ _ cap hcap hr =>
    refine⟨len,(cs.drop off).take (len*esz),((List.range (len*esz)).map fun m=>f (off+m)).toArray,_,cap,rfl,by simp;omega,by simp,?_,?_,hK⟩
    ·intro m;rcases Nat.lt_or_ge m (len*esz) with hm | hm
     ·have h1:((cs.drop off).take (len*esz)).getD m .undef=cs.getD (off+m) .undef:=by simp[List.getD,hm]
      have h2:(((List.range (len*esz)).map fun m=>f (off+m)).toArray).getD m Go.undef=f (off+m):=by simp[Array.getD,hm]
      rw[h1,h2];exact g2 _
     ·rw[yH (by simp;omega)];exact .undef ..
    ·intro d;simp only[Builtin.firstCells];refine run_loadCells _ _ _ (fun m=>f (off+m)) (fun m hm=>?_);rw[qX];have:=g1 (off+m) (by omega);rw[Nat.zero_add] at this;exact this
  ·exact h.elim
 ·exact h.elim
theorem Wv (need cap:Nat) (h:cap<need):Builtin.nextslicecap need cap<=need+need / 4+512:=by
 unfold Builtin.nextslicecap;split
 ·omega
 ·split
  ·omega
  ·have key:∀r c,c<=need+need / 4+512->Builtin.growBy need r c<=need+need / 4+512:=by
    intro r;induction r with
    |zero=>intro c h;exact h
    |succ r ih =>
     intro c h;simp only[Builtin.growBy];split
     ·exact h
     ·exact ih _ (by omega)
   exact key 4 cap (by omega)
theorem M5 {l:List AV} (h:yn l=true) {ρ:RO} {μ:Option Lay} {c:Array Value} (hc:RvC ρ μ l c) (hl:l.length=c.size):∀v∈c.toList,v.oneCell'=true:=by
 intro v hv;obtain ⟨j,hj,rfl⟩:=List.getElem_of_mem hv;simp only[Array.length_toList] at hj;have h1:=hc j;have hjl:j<l.length:=by omega
 have h2:(l.getD j .undef).one=true:=by
  simp only[List.getD,List.getElem?_eq_getElem hjl,Option.getD_some];exact List.all_eq_true.1 h _ (List.getElem_mem hjl)
 have h3:=Pw h2 h1;simpa[Array.getD,hj] using h3
theorem Sy {P:Program} {t t2 e:TypeId} {d2:TypeId} (hu:P.underlying t=some (.slice e)) (hu2:P.underlying t2=some (.slice d2)) {de:TypeDesc} (hde:P.underlying e=some de)
  {z:AV} (hz:wz P e=some z) (hzl:z.cells.length=P.cellsOf e) {p:Option Addr} {len cap nx:Nat} {cx:Value} {px:Option Addr} {capx:Nat} (hcx:cx=.slice px nx capx) (type:TypeId)
  {old new:Array Value} (hold:∀d,(Builtin.firstCells (P.cellsOf e) len (.slice p len cap)).run P { w with drawn:=d }=.ok old { w with drawn:=d })
  (hnew:∀d,(Builtin.firstCells (P.cellsOf e) nx cx).run P { w with drawn:=d }=.ok new { w with drawn:=d })
  (hosz:old.size=len*P.cellsOf e) (hnsz:new.size=nx*P.cellsOf e) (hroom:cap<len+nx) (hbnd:(len+nx+512)*(5*P.bytesOf e+1)<=2 ^ 50) :
  ∃c newCap,(Builtin.append_ #[t,t2] type #[.slice p len cap,cx]).run P w=.ok (.slice (some ⟨w.heap.size,0,none⟩) (len+nx) newCap) ({ w with drawn:=w.drawn+1 }.alloc (.cells c e)) /\
   len+nx<=newCap/\c.size=newCap*P.cellsOf e/\∀j,j<(len+nx)*P.cellsOf e->c.getD j Go.undef=(old++new).getD j Go.undef:=by
 obtain ⟨cz,hzr,hzs,rfl⟩:=jF hz { w with drawn:=w.drawn+1 };obtain ⟨cz',hzr',-,hzz⟩:=jF hz w;have hcz:cz.cells.size=P.cellsOf e:=by
  have:=(qT hzs (Rv.ofV (fun _=>none) none cz)).1;omega
 obtain ⟨ie,hie,hbytes⟩:=O0 hde w;have hie':(typeInfo e).run P { w with drawn:=w.drawn+1 }=.ok ie { w with drawn:=w.drawn+1 }:=by
  obtain ⟨i,hi⟩:=uB hde;simp only[typeInfo,Sem.run_bind,run_program,Result.andThen_ok,hi,Sem.run_pure] at hie ⊢;cases hie;rfl
 have hneed:len+nx<=2 ^ 50:=by
  have:(len+nx+512)*1<=(len+nx+512)*(5*P.bytesOf e+1):=Nat.mul_le_mul_left _ (by omega);omega
 have hnc:=Wv (len+nx) cap hroom;have hcapb:Builtin.nextslicecap (len+nx) cap*P.bytesOf e<=2 ^ 48:=by
  have h1:(4*Builtin.nextslicecap (len+nx) cap)*P.bytesOf e<=(5*(len+nx+512))*P.bytesOf e:=Nat.mul_le_mul (by omega) (Nat.le_refl _);have h2:(5*(len+nx+512))*P.bytesOf e=(len+nx+512)*(5*P.bytesOf e):=by rw[Nat.mul_comm 5,Nat.mul_assoc]
  have h3:(len+nx+512)*(5*P.bytesOf e)<=(len+nx+512)*(5*P.bytesOf e+1):=Nat.mul_le_mul_left _ (by omega);have h4:(4*Builtin.nextslicecap (len+nx) cap)*P.bytesOf e=4*(Builtin.nextslicecap (len+nx) cap*P.bytesOf e):=Nat.mul_assoc ..;omega
 let q:Question:=.appendCap (len+nx) cap e
 let nc:=q.cut (w.tape w.drawn q)
 have hq:q.forced=false:=rfl;have hncge:len+nx<=nc:=by
  have:nc=(len+nx)+(w.tape w.drawn q) % (2 ^ 63-(len+nx)):=rfl;rw[this];exact Nat.le_add_right _ _
 refine⟨old++new++Builtin.zeroCells cz.cells (nc-(len+nx)),nc,?_,hncge,?_,?_⟩
 ·subst hcx;have hmax:¬ ((((len+nx:Nat):Int)>IntKind.i64.max)/\(False\/ie.bytes=0)):=by
   intro h;have:IntKind.i64.max=9223372036854775807:=rfl;omega
  have hz0:({ w with drawn:=w.drawn }:World)=w:=rfl;have hi1:((len+nx:Nat):Int)<=IntKind.i64.max:=by
   have:IntKind.i64.max=9223372036854775807:=rfl;omega
  simp only[Builtin.append_,List.getElem?_toArray,List.getElem?_cons_zero,List.getElem?_cons_succ,Sem.run_bind,run_underlying hu,run_underlying hu2,Result.andThen_ok,yD hde,Sem.run_pure,Bool.false_eq_true,if_false,Builtin.lenOf];rw[if_neg (by omega)];simp only[hie,hbytes,Sem.run_bind,Result.andThen_ok,Sem.run_ite];rw[if_neg (by omega),if_neg (by omega)];simp only[run_choose];rw[if_neg (by simp[Question.forced])];simp only[Result.andThen_ok,hie',run_askRoom,hold,hnew,hzr,Bool.not_false,if_true,newRow,Sem.run_bind,run_newObj,Sem.run_pure];rfl
 ·simp only[Array.size_append,hosz,hnsz,Builtin.zeroCells,Array.size_map,Array.size_range,hcz];rw[<- Nat.add_mul,<- Nat.add_mul];congr 1;omega
 ·intro j hj;have:j<(old++new).size:=by simp[hosz,hnsz,<- Nat.add_mul];exact hj
  rw[Array.getD_eq_getD_getElem?,Array.getD_eq_getD_getElem?,Array.getElem?_append_left this]
theorem Sat.append (hs:Sat ds n μ0 ρ0 w0 ρ μ σ a w) {P:Program} {ts:List TypeId} {s x:AV} {cs cx:Value} {d:Nat} {K:St->Prop} (type:TypeId) (hS:Rv ρ (some μ) s cs) (hX:Rv ρ (some μ) x cx) (h:jR P n ts s x d σ K) :
  ∃cv w' μ' σ',(Builtin.append_ ts.toArray type #[cs,cx]).run P w=.ok cv w'/\Sat ds n μ0 ρ0 w0 ρ μ' σ' (a.put (some d) cv) w'/\K σ':=by
 unfold jR at h;split at h
 ·rename_i t t2;split at h
  ·rename_i e d2 hu hu2;split at h
   ·exact h.elim
   rename_i hcond;simp only[not_or,Decidable.not_not,ne_eq] at hcond;obtain ⟨hsz0,hne,hzz⟩:=hcond;obtain ⟨de,hde⟩:∃d,P.underlying e=some d:=by cases hh:P.underlying e<;>simp_all
   obtain ⟨z,hz,hzl⟩:=Option.map_eq_some_iff.1 hzz;obtain ⟨nx,lx,new,px,capx,rfl,hlx,hnsz,hnr,hnew,hh⟩:=xo (P:=P) hs hX h;clear h;have h:=hh;clear hh;have grow:∀(p:Option Addr) (len cap:Nat) (lo:List AV) (old:Array Value),cs=.slice p len cap->(∀d,(Builtin.firstCells (P.cellsOf e) len (.slice p len cap)).run P { w with drawn:=d }=.ok old { w with drawn:=d }) ->
     old.size=len*P.cellsOf e->lo.length=len*P.cellsOf e->RvC ρ none lo old->cap<len+nx->(len+nx+512)*(5*P.bytesOf e+1)<=2 ^ 50 ->
     ∀(σ':St) (ag:Bool) (hs':Sat ds n μ0 ρ0 w0 ρ μ σ' a w),qV n d ⟨e,true,lo++lx⟩ (.aslc (n+d) 0 (len+nx) (P.cellsOf e) ag) σ' K ->
     ∃cv w' μ' σ',(Builtin.append_ #[t,t2] type #[cs,.slice px nx capx]).run P w=.ok cv w'/\Sat ds n μ0 ρ0 w0 ρ μ' σ' (a.put (some d) cv) w'/\K σ':=by
    rintro p len cap lo old rfl hold hosz hlo hor hroom hbnd σ' ag hs' hK;obtain ⟨c,nc,g1,g2,g3,g4⟩:=Sy (w:=w) hu hu2 hde hz hzl (px:=px) (capx:=capx) rfl type hold hnew hosz hnsz hroom hbnd;have hl:(lo++lx).length<=c.size:=by
     rw[List.length_append,hlo,hlx,g3,<- Nat.add_mul];exact Nat.mul_le_mul_right _ g2
    have hr:RvC ρ none (lo++lx) c:=by
     intro j;rcases Nat.lt_or_ge j ((len+nx)*P.cellsOf e) with hj | hj
     ·rw[g4 j hj];rw[Nat.add_mul] at hj;have e1:(lo++lx).getD j .undef=if j<lo.length then lo.getD j .undef else lx.getD (j-lo.length) .undef:=by
       simp only[List.getD,List.getElem?_append];split<;>rfl
      have e2:(old++new).getD j Go.undef=if j<old.size then old.getD j Go.undef else new.getD (j-old.size) Go.undef:=by
       simp only[Array.getD_eq_getD_getElem?,Array.getElem?_append];split<;>rfl
      rw[e1,e2,hlo,hosz];split
      ·exact hor j
      ·exact hnr _
     ·rw[yH (by rw[List.length_append,hlo,hlx,<- Nat.add_mul];exact hj)];exact .undef ..
    obtain ⟨μ',σ'',g5,g6⟩:=(hs'.drawn (w.drawn+1)).alloc (e:=e) hK hl hr (cp:=.slice (some ⟨w.heap.size,0,none⟩) (len+nx) nc) (fun μ' hm=>by
     have:=Rv.aslc (ρ:=ρ) μ' (n+d) 0 (len+nx) (P.cellsOf e) ag nc g2 (by rw[hm];simp only[Nat.zero_add];rw[g3];exact Nat.le_refl _);rw[hm] at this;exact this)
    exact⟨_,_,μ',σ'',g1,g5,g6⟩
   have none_:∀(p:Option Addr) (ag:Bool) (σ':St) (hs':Sat ds n μ0 ρ0 w0 ρ μ σ' a w),cs=.slice p 0 0->nx=0->qV n d ⟨e,true,[]⟩ (.aslc (n+d) 0 0 (P.cellsOf e) ag) σ' K ->
     ∃cv w' μ' σ',(Builtin.append_ #[t,t2] type #[cs,.slice px nx capx]).run P w=.ok cv w'/\Sat ds n μ0 ρ0 w0 ρ μ' σ' (a.put (some d) cv) w'/\K σ':=by
    rintro p ag σ' hs' rfl rfl hK;unfold qV at hK;split at hK
    ·rename_i hh;simp only[Bool.and_eq_true,Bool.not_eq_true',List.contains_eq_mem,decide_eq_false_iff_not,decide_eq_true_eq] at hh;obtain ⟨⟨⟨⟨h0m,h1⟩,h2⟩,h3⟩,h4⟩:=hh;have hnew0:new=#[]:=by apply Array.eq_empty_of_size_eq_zero;simpa using hnsz
     subst hnew0;have hn0:=hnew w.drawn;refine⟨.slice p 0 0,w,_,_,?_,hs'.zt (B:=w.heap.size) (κ:=0) (o:=.cells #[] e (0,0)) h1 h2 h3 h4 (qH.refl _ w) (.inl rfl) (Nat.le_refl _) ?_ ?_ (.inl hs.size) (.aslc0 _ _ _ _ _),hK⟩
     ·simp only[Builtin.append_,List.getElem?_toArray,List.getElem?_cons_zero,List.getElem?_cons_succ,Sem.run_bind,run_underlying hu,run_underlying hu2,Result.andThen_ok,yD hde,Sem.run_pure,Bool.false_eq_true,if_false,Builtin.lenOf];rw[if_pos (by omega)];simp only[Sem.run_bind,Bool.not_false,if_true];have:(Builtin.firstCells (P.cellsOf e) 0 (.slice px 0 capx)).run P w=.ok #[] w:=hn0;rw[this];cases p<;>simp[storeCells]
     ·intro b l _ hb hk he;obtain ⟨y,hy,rfl⟩:=yK hb;rcases (hs'.box b y hy).blk with h0 | ⟨o',h1,_⟩
      ·exact hk h0
      ·rw[he,Array.getElem?_eq_none (Nat.le_refl _)] at h1;cases h1
     ·cases hr:ρ w.heap.size with
      |none=>rfl
      |some o =>
       have:=hs.ro _ _ hr;rw[Array.getElem?_eq_none (Nat.le_refl _)] at this;cases this
    ·exact hK.elim
   have hempty:∀(p:Option Addr) d,(Builtin.firstCells (P.cellsOf e) 0 (.slice p 0 0)).run P { w with drawn:=d }=.ok #[] { w with drawn:=d }:=by
    intro p d;cases p<;>simp[Builtin.firstCells,loadCells,loadCellsFrom]
   split at h
   ·-- nil
    obtain ⟨⟨hb,hone⟩,hK⟩:=h;have hcs:cs=.slice none 0 0:=by
     cases hS with
     |nilslc=>rfl
     |eslc=>simp_all
     |slc=>simp_all
    rcases Nat.eq_zero_or_pos nx with h0 | h0
    ·subst h0;have:lx=[]:=List.eq_nil_of_length_eq_zero (by simpa using hlx);subst this;exact none_ none _ σ hs hcs rfl hK
    ·exact grow none 0 0 [] #[] hcs (hempty none) (by simp) (by simp) (fun j=>.undef ..) (by omega) (by simpa using hb) σ _ hs (by simpa using hK)
   ·-- full
    rename_i es;obtain ⟨⟨hor,hb,hel,hone,hone2⟩,hK⟩:=h;have hbig:∃p old,cs=.slice p es.length es.length/\(∀d,(Builtin.firstCells (P.cellsOf e) es.length (.slice p es.length es.length)).run P { w with drawn:=d }=.ok old { w with drawn:=d })/\old.size=es.length*P.cellsOf e/\(es.flatMap AV.cells).length=es.length*P.cellsOf e/\RvC ρ none (es.flatMap AV.cells) old:=by
     have hw:qz σ (P.cellsOf e) (.slc 2 es) (fun m l=>m=es.length/\l=es.flatMap AV.cells):=⟨hel,rfl,rfl⟩;obtain ⟨m,l,old,p,cap,h1,h2,h3,h4,h5,rfl,rfl⟩:=xo (P:=P) hs hS hw;have hcap:cap=es.length:=by
      subst h1;cases hS with
      |nilslc=>rfl
      |eslc=>rfl
      |slc _ _ _ _ _ _ _ _ _ _ hcc=>exact hcc rfl
     subst hcap;exact⟨p,old,h1,by rw[<- h1];exact h5,h3,h2,h4⟩
    obtain ⟨p,old,hcs,g1,g2,g3,g4⟩:=hbig;rcases Nat.eq_zero_or_pos nx with h0 | h0
    ·rcases hor with rfl | hp
     ·subst h0;have:lx=[]:=List.eq_nil_of_length_eq_zero (by simpa using hlx);subst this;exact none_ p _ σ hs hcs rfl (by simpa using hK)
     ·omega
    ·exact grow p _ _ _ old hcs g1 g2 g3 g4 (by omega) hb σ _ hs hK
   ·-- a slice of the call's own
    rename_i b len esz ag;split at h
    ·rename_i bx hbx;split at h
     ·rename_i hc2;simp only[Bool.and_eq_true,decide_eq_true_eq] at hc2;obtain ⟨⟨harr,rfl⟩,hbd⟩:=hc2;have hmC:bx.mp=none:=by unfold Bx.mp;rw[if_pos harr]
      obtain ⟨⟨hlen,hb,hone,hone2⟩,hK⟩:=h;have hbox:=yi hbx;have hw:qz σ (P.cellsOf e) (.aslc b 0 len (P.cellsOf e) ag) (fun m l=>m=len/\l=bx.cs):=by
       simp only[qz,St.zg,hbx,hmC,Option.isSome_none,Bool.false_eq_true,if_false,harr,if_true,Nat.zero_add,List.drop_zero];exact⟨⟨trivial,by omega⟩,trivial,by rw[<- hlen];simp⟩
      obtain ⟨m,l,old,p,cap,h1,h2,h3,h4,h5,rfl,rfl⟩:=xo (P:=P) hs hS hw;subst h1;rcases Nat.lt_or_ge cap (m+nx) with hroom | hroom
      ·exact grow p m cap _ old rfl h5 h3 hlen h4 hroom hb _ ag (hs.kill b) hK
      ·-- room
       have hz:∀(p:Option Addr),Value.slice p 0 0=.slice p 0 0:=fun _=>rfl
       have hnothing:m=0->nx=0->cap=0->∃cv w' μ' σ',(Builtin.append_ #[t,t2] type #[.slice p m cap,.slice px nx capx]).run P w=.ok cv w'/\Sat ds n μ0 ρ0 w0 ρ μ' σ' (a.put (some d) cv) w'/\K σ':=by
        intro h1 h2 h3;have e1:bx.cs=[]:=List.eq_nil_of_length_eq_zero (by rw[hlen,h1];simp);have e2:lx=[]:=List.eq_nil_of_length_eq_zero (by rw[hlx,h2];simp);exact none_ p ag _ (hs.kill b) (by rw[h1,h3]) h2 (by rw[e1,e2,h1,h2] at hK;exact hK)
       cases hS with
       |aslc0=>exact hnothing rfl (by omega) rfl
       |aslc _ _ _ _ _ _ _ hcap hr =>
        obtain ⟨hb1,hb2⟩:=hs.box b _ hbx;by_cases hκ:(μ b).2=0
        ·have hc0:cap=0:=by
          rw[hκ] at hr;have:cap*P.cellsOf e=0:=by omega
          rcases Nat.mul_eq_zero.1 this with h | h
          ·exact h
          ·exact absurd h hsz0
         exact hnothing (by omega) (by omega) hc0
        rcases hb2 with h0' | ⟨o,k1,k3⟩
        ·exact absurd h0' hκ
        obtain ⟨c,ee,rfl,k2,k3⟩:=k3.get (by rw[uI];exact hmC);have hmc:(m+nx)*P.cellsOf e<=cap*P.cellsOf e:=Nat.mul_le_mul_right _ hroom;rw[Nat.add_mul] at hmc;obtain ⟨w',c',q1,q2,q3,q4,q5⟩:=vX (P:=P) (off:=0+m*P.cellsOf e) new.toList 0 w c k1 (M5 hone hnr (by omega)) (by simp only[Array.length_toList,hnsz];omega);unfold qV at hK;split at hK
        ·rename_i hh;simp only[Bool.and_eq_true,Bool.not_eq_true',List.contains_eq_mem,decide_eq_false_iff_not,decide_eq_true_eq] at hh;obtain ⟨⟨⟨⟨h0m,h1⟩,h2⟩,h3⟩,h4⟩:=hh;have hkb:∀i l,({ σ with bx:=σ.bx.set b none }:St).box i=some l->i≠b/\σ.box i=some l:=by
          intro i l h;simp only[St.box] at h;rw[qo] at h;by_cases hi:i=b
          ·rw[if_pos ⟨hi,vj hbx⟩] at h;cases h
          ·rw[if_neg (fun h=>hi h.1)] at h;exact⟨hi,h⟩
         refine⟨.slice (some ⟨(μ b).1,0,none⟩) (m+nx) cap,w',_,_,?_,(hs.kill b).zt (B:=(μ b).1) (κ:=(μ b).2) (o:=.cells c' ee (0,0)) h1 h2 h3 h4 q2 (.inr ⟨q3,.cells (uH rfl _) (by rw[q4,k2]) ?_⟩) ?_ ?_ (hs.sep b _ hbox hκ) (hs.zT hbox hκ) ?_,hK⟩
         ·have hn0:(Builtin.firstCells (P.cellsOf e) nx (.slice px nx capx)).run P w=.ok new w:=hnew w.drawn;simp only[Builtin.append_,List.getElem?_toArray,List.getElem?_cons_zero,List.getElem?_cons_succ,Sem.run_bind,run_underlying hu,run_underlying hu2,Result.andThen_ok,yD hde,Sem.run_pure,Bool.false_eq_true,if_false,Builtin.lenOf];rw[if_pos hroom];simp only[Sem.run_bind,Bool.not_false,if_true,hn0,Result.andThen_ok];rw[qX,q1];simp
         ·intro j;have e1:(bx.cs++lx).getD j .undef=if j<bx.cs.length then bx.cs.getD j .undef else lx.getD (j-bx.cs.length) .undef:=by
           simp only[List.getD,List.getElem?_append];split<;>rfl
          rw[e1,q5 j,hlen];simp only[Nat.zero_add,Nat.add_zero,Nat.sub_zero,Array.length_toList,hnsz];by_cases hj1:j<m*P.cellsOf e
          ·rw[if_pos hj1,if_neg (by omega)];have:=k3 j;unfold lev at this ⊢;rw[if_pos harr] at this;rw[if_pos rfl];exact this
          ·rw[if_neg hj1];by_cases hj2:j<m*P.cellsOf e+nx*P.cellsOf e
           ·rw[if_pos (by omega),ja];exact hnr _
           ·rw[yH (by omega)];exact .undef ..
         ·rw[List.length_append,hlen,hlx];omega
         ·intro i l _ hi hki;obtain ⟨hne',hi'⟩:=hkb i l hi;exact hs.inj i b _ _ hi' hbox hne' hki hκ
         ·have:=Rv.aslc (ρ:=ρ) (vt μ (n+d) ((μ b).1,(μ b).2)) (n+d) 0 (m+nx) (P.cellsOf e) ag cap hroom (by simp[vt];omega);simp only[vt,if_true] at this;exact this
        ·exact hK.elim
     ·exact h.elim
    ·exact h.elim
   ·exact h.elim
  ·exact h.elim
 ·exact h.elim
end
structure Ly (ρ:RO) (μ:Lay) (m:Nat) (w:World) (v:AV) (O:List (List AV)) (e:Ending) (w':World):Prop where
 ex:∃cv ρ',e=.returned cv/\ρ.le ρ'/\(∀k o,ρ' k=some o->w'.heap[k]? = some o)/\(∀k o,ρ' k=some o->ρ k=none->w.heap.size<=k) /\
  Rv ρ' (some μ) v cv/\∀b cs,O[b]? = some cs->vQ ρ' (some μ) μ w' b cs
 len:O.length=m
 frame:∀k,k<w.heap.size->(∀b,b<m->(μ b).2≠0->k≠(μ b).1)->w'.heap[k]? = w.heap[k]?
 size:w.heap.size<=w'.heap.size
 os:w'.os=w.os
 tape:w'.tape=w.tape
 output:w'.output=w.output
structure wB (P:Program) (f:FuncId) (args:List AV) (O:List (List AV)) (v:AV) (O':List (List AV)):Prop where
 enter:∀(vs:Array Value) (w:World),(callFunc f vs).run P w=.ok (.enter f vs) w
 run:∀(ρ:RO) (μ:Lay) (w:World) (vs:Array Value),kJ ρ->(∀k o,ρ k=some o->w.heap[k]? = some o)->(∀b cs,O[b]? = some cs->vQ ρ (some μ) μ w b cs) ->
  (∀b b',b<O.length->b'<O.length->b≠b'->(μ b).2≠0->(μ b').2≠0->(μ b).1≠(μ b').1)->(∀b,b<O.length->(μ b).2≠0->ρ (μ b).1=none) ->
  Rvs ρ (some μ) args vs->Calls P f vs w (Ly ρ μ O.length w v O')
structure HX (ρ:RO) (w:World) (k:Nat) (es:List AV) (e:Ending) (w':World):Prop where
 ex:∃(ρ':RO) (B κ:Nat) (cv:Value),e=.returned cv/\ρ.le ρ'/\(∀k o,ρ' k=some o->w'.heap[k]? = some o)/\(∀k o,ρ' k=some o->ρ k=none->w.heap.size<=k) /\
  (∀ag,Rv ρ' (some fun _=>(B,κ)) (.aslc 0 0 es.length k ag) cv)/\ρ' B=none/\w.heap.size<=B/\(es.flatMap AV.cells).length<=κ /\
  (κ=0\/∃c e,w'.heap[B]? = some (.cells c e (0,0))/\c.size=κ/\RvC ρ' none (es.flatMap AV.cells) c)
 frame:∀k,k<w.heap.size->w'.heap[k]? = w.heap[k]?
 size:w.heap.size<=w'.heap.size
 os:w'.os=w.os
 tape:w'.tape=w.tape
 output:w'.output=w.output
structure WJ (P:Program) (f:FuncId) (args:List AV) (k:Nat) (es:List AV):Prop where
 enter:∀(vs:Array Value) (w:World),(callFunc f vs).run P w=.ok (.enter f vs) w
 run:∀(ρ:RO) (w:World) (vs:Array Value),kJ ρ->(∀k o,ρ k=some o->w.heap[k]? = some o)->Rvs ρ none args vs->Calls P f vs w (HX ρ w k es)
structure Ng (P:Program) (f:FuncId) (cs:List AV) (k:Nat) (cs':List AV):Prop where
 enter:∀(vs:Array Value) (w:World),(callFunc f vs).run P w=.ok (.enter f vs) w
 run:∀(zs zs':List Int) (w:World) (B cap:Nat) (c:Array Value) (e:TypeId),cs=zs.map (AV.int .i64)->cs'=zs'.map (AV.int .i64)->0<zs.length->zs'.length=zs.length->w.heap[B]? = some (.cells c e (0,0))->zs.length<=cap->cap<=c.size ->
  (∀j,j<zs.length->c.getD j Go.undef=.int .i64 (zs.getD j 0)) ->
  Calls P f #[.slice (some ⟨B,0,none⟩) zs.length cap] w fun en w'=>en=.returned (match k with
   |0=>.tuple #[]
   |m+1=>.slice (some ⟨B,0,none⟩) m cap)/\w'.os=w.os/\w'.tape=w.tape/\w'.output=w.output/\w.heap.size<=w'.heap.size/\(∀i,i<w.heap.size->i≠B->w'.heap[i]? = w.heap[i]?) /\
   ∃c',w'.heap[B]? = some (.cells c' e (0,0))/\c'.size=c.size/\∀j,j<zs.length->c'.getD j Go.undef=.int .i64 (zs'.getD j 0)
def jQ (P:Program) (f:FuncId) (args:List AV) (k:Nat) (es:List AV):Prop :=
 match args with
 |[.tup cs]=>Ng P f cs k es
 |args=>WJ P f args k es
theorem ME {P:Program} {f:FuncId} {args:List AV} {k:Nat} {es:List AV} (h:jQ P f args k es) (hn:Pt args=true):WJ P f args k es:=by
 unfold jQ at h;split at h
 ·simp[Pt,Pc] at hn
 ·exact h
structure WK (ρ:RO) (T:Nat->Prop) (W W':World):Prop where
 size:W.heap.size<=W'.heap.size
 ro:∀k o,ρ k=some o->W'.heap[k]? = some o
 box:∀k,T k->W'.heap[k]? = W.heap[k]?
 os:W'.os=W.os
 tape:W'.tape=W.tape
 output:W'.output=W.output
structure Xy (ρ:RO) (T:Nat->Prop) (W:World) (ρ':RO) (T':Nat->Prop) (W':World):Prop where
 size:W.heap.size<=W'.heap.size
 frame:∀k,k<W.heap.size->¬ T k->W'.heap[k]? = W.heap[k]?
 le:ρ.le ρ'
 ro:∀k o,ρ' k=some o->W'.heap[k]? = some o
 new:∀k o,ρ' k=some o->ρ k=none->T k\/W.heap.size<=k
 own:∀k,T' k->T k\/W.heap.size<=k
 lt:∀k,T' k->k<W'.heap.size
 sep:∀k,T' k->ρ' k=none
 os:W'.os=W.os
 tape:W'.tape=W.tape
 output:W'.output=W.output
def jz (μ:Lay) (m k:Nat):Prop:=∃b,b<m/\(μ b).2≠0/\k=(μ b).1
abbrev ItJ:=RO->(Nat->Prop)->Nat->World->Prop
abbrev ItX:=RO->(Nat->Prop)->World->Prop
def xw (J:ItJ):Prop:=∀ρ T i W ρ' T' W',J ρ T i W->Xy ρ T W ρ' T' W'->J ρ' T' i W'
def vw (J:ItX):Prop:=∀ρ T W ρ' T' W',J ρ T W->Xy ρ T W ρ' T' W'->J ρ' T' W'
structure xv (P:Program) (g:FuncId) (args:List AV) (O:List (List AV)) (xs:List (List AV)):Prop where
 enter:∀(vs:Array Value) (w:World),(callFunc g vs).run P w=.ok (.enter g vs) w
 run:∀(ρ:RO) (μ:Lay) (w:World) (vs:Array Value) (l:Nat) (J:ItJ) (Jx:ItX),kJ ρ->(∀k o,ρ k=some o->w.heap[k]? = some o)->(∀b cs,O[b]? = some cs->vQ ρ (some μ) μ w b cs) ->
  (∀b b',b<O.length->b'<O.length->b≠b'->(μ b).2≠0->(μ b').2≠0->(μ b).1≠(μ b').1)->(∀b,b<O.length->(μ b).2≠0->ρ (μ b).1=none) ->
  Rvs ρ (some μ) args vs->xw J->vw Jx ->
  (∀ρ T i x ys W,xs[i]? = some x->J ρ T i W->Rvs ρ none x ys->(∀k o,ρ k=some o->W.heap[k]? = some o) ->
   YieldAt Fence.wide 0 P l ys W fun e W'=>WK ρ T W W'/\((e=.returned (.bool true)/\J ρ T (i+1) W')\/(e=.returned (.bool false)/\Jx ρ T W'))) ->
  J ρ (jz μ O.length) 0 w->Calls P g (#[.func (.yield l) #[] #[]]++vs) w fun e W'=>(∃v,e=.returned v)/\∃ρ' T',J ρ' T' xs.length W'\/Jx ρ' T' W'
structure Ql (ρ:RO) (T:Nat->Prop) (μ:Lay) (O:List (List AV)) (w:World) (ρ':RO) (T':Nat->Prop) (W':World):Prop where
 le:ρ.le ρ'
 ro:∀k o,ρ' k=some o->W'.heap[k]? = some o
 new:∀k o,ρ' k=some o->ρ k=none->w.heap.size<=k
 keeps:∀k,T k->T' k
 box:∀b cs,O[b]? = some cs->vQ ρ' (some μ) μ W' b cs
 same:∀k,T k->¬ jz μ O.length k->W'.heap[k]? = w.heap[k]?
 size:w.heap.size<=W'.heap.size
 os:W'.os=w.os
 tape:W'.tape=w.tape
 output:W'.output=w.output
structure jK (P:Program) (l:Nat) (g:FuncId) (args:List AV) (O:List (List AV)) (xs:List (List AV)):Prop where
 enter:∀(vs:Array Value) (w:World),(callFunc g vs).run P w=.ok (.enter g vs) w
 run:∀(ρ:RO) (μ:Lay) (w:World) (vs:Array Value) (J:ItJ) (Jx:ItX) (i0:Nat) (T:Nat->Prop),kJ ρ->(∀k o,ρ k=some o->w.heap[k]? = some o)->(∀b cs,O[b]? = some cs->vQ ρ (some μ) μ w b cs) ->
  (∀b b',b<O.length->b'<O.length->b≠b'->(μ b).2≠0->(μ b').2≠0->(μ b).1≠(μ b').1)->(∀b,b<O.length->(μ b).2≠0->T (μ b).1)->(∀k,T k->k<w.heap.size/\ρ k=none) ->
  Rvs ρ (some μ) args vs->xw J->vw Jx ->
  (∀ρ T i x ys W,xs[i]? = some x->J ρ T (i0+i) W->Rvs ρ none x ys->(∀k o,ρ k=some o->W.heap[k]? = some o) ->
   YieldAt Fence.wide 0 P l ys W fun e W'=>WK ρ T W W'/\((e=.returned (.bool true)/\J ρ T (i0+i+1) W')\/(e=.returned (.bool false)/\Jx ρ T W'))) ->
  J ρ T i0 w->Calls P g vs w fun e W'=>∃ρ' T',Ql ρ T μ O w ρ' T' W'/\((e=.returned (.bool true)/\J ρ' T' (i0+xs.length) W')\/(e=.returned (.bool false)/\Jx ρ' T' W'))
def yj (P:Program) (frs:Ways) (il:vZ):Specs:=⟨wB P,jQ P,frs,il,xv P⟩
section
variable {ds:List Deferred} {n:Nat} {μ0:Lay} {ρ0:RO} {w0:World} {ρ:RO} {μ:Lay} {σ:St} {a:Act} {w:World}
theorem Sat.ya (hs:Sat ds n μ0 ρ0 w0 ρ μ σ a w) {ρ':RO} (hle:ρ.le ρ') (hro:∀k o,ρ' k=some o->w.heap[k]? = some o) (hsep:∀b cs,σ.box b=some cs->(μ b).2≠0->ρ' (μ b).1=none)
  (hnew:∀k o,ρ' k=some o->ρ k=none->Own n μ0 w0 k):Sat ds n μ0 ρ0 w0 ρ' μ σ a w :=
 {hs with
  defs:=hs.defs.mono hle
  sl:=fun t=>(hs.sl t).mono hle
  box:=fun b cs hb=>by
   obtain ⟨h1,h2⟩:=hs.box b cs hb;refine⟨h1,?_⟩;rcases h2 with h2 | ⟨o,h3,h5⟩
   ·exact .inl h2
   ·exact .inr ⟨o,h3,h5.imp rfl fun j cv hj=>hj.mono hle⟩
  sep:=hsep
  ro:=hro
  le:=hs.le.trans hle
  new:=fun k o h h0=>by
   cases h1:ρ k with
   |none=>exact hnew k o h h1
   |some o'=>exact hs.new k o' h1 h0 }
theorem Sat.zv (hs:Sat ds n μ0 ρ0 w0 ρ μ σ a w) {ρ':RO} {w':World} (hle:ρ.le ρ') (hro:∀k o,ρ' k=some o->w'.heap[k]? = some o) (hnew:∀k o,ρ' k=some o->ρ k=none->w.heap.size<=k)
  (hw:∀k,k<w.heap.size->w'.heap[k]? = w.heap[k]?) (hsz:w.heap.size<=w'.heap.size) (hos:w'.os=w.os) (ht:w'.tape=w.tape) (hout:w'.output=w.output):Sat ds n μ0 ρ0 w0 ρ' μ σ a w':=by
 have blkLt:∀b cs,σ.box b=some cs->(μ b).2≠0->(μ b).1<w.heap.size:=by
  intro b cs hb hk;obtain ⟨y,hy,rfl⟩:=yK hb;rcases (hs.box b y hy).blk with h0 | ⟨o,h,_⟩
  ·exact absurd h0 hk
  ·exact(Array.getElem?_eq_some_iff.1 h).1
 exact { hs with
  defs:=hs.defs.mono hle
  sl:=fun t=>(hs.sl t).mono hle
  box:=fun b cs hb=>by
   obtain ⟨h1,h2⟩:=hs.box b cs hb;refine⟨h1,?_⟩;rcases h2 with h2 | ⟨o,h3,h5⟩
   ·exact .inl h2
   ·exact .inr ⟨o,by rw[hw _ (Array.getElem?_eq_some_iff.1 h3).1];exact h3,h5.imp rfl fun j cv hj=>hj.mono hle⟩
  sep:=fun b cs hb hk=>by
   have h1:=hs.sep b cs hb hk;cases h2:ρ' (μ b).1 with
   |none=>rfl
   |some o=>have:=hnew _ _ h2 h1;have:=blkLt b cs hb hk;omega
  ro:=hro
  le:=hs.le.trans hle
  new:=fun k o h h0=>by
   cases h1:ρ k with
   |none=>have:=hnew k o h h1;have:=hs.size;exact .inl (by omega)
   |some o'=>exact hs.new k o' h1 h0
  frame:=fun k hk h=>by rw[hw k (by have:=hs.size;omega)];exact hs.frame k hk h
  size:=Nat.le_trans hs.size hsz
  os:=hos.trans hs.os
  tape:=ht.trans hs.tape
  output:=hout.trans hs.output }
theorem P3 {P:Program} {t:TypeId} {d:Nat} {z:AV} {K:St->Prop} (hs:Sat ds n μ0 ρ0 w0 ρ μ σ a w) (hz:wz P t=some z) (h:qV n d ⟨t,false,z.cells⟩ (.ref (n+d) 0) σ K) :
  ∃cv w' μ' σ',(Instr.alloc t true (.tuple #[])).run P w=.ok cv w'/\Sat ds n μ0 ρ0 w0 ρ μ' σ' (a.put (some d) cv) w'/\K σ':=by
 obtain ⟨cz,hzr,hzs,rfl⟩:=jF hz w;obtain ⟨hl,hr⟩:=qT hzs (Rv.ofV ρ (some μ) cz);obtain ⟨μ',σ',h1,h2⟩:=hs.alloc (e:=t) (c:=cz.cells) (cp:=.pointer (some ⟨w.heap.size,0,none⟩)) h (Nat.le_of_eq hl) hr (fun μ' hm=>by
  have:=Rv.ref (ρ:=ρ) μ' (n+d) 0;rw[hm] at this;exact this)
 refine⟨_,_,μ',σ',?_,h1,h2⟩;simp only[Instr.alloc,Sem.run_bind,hzr,Result.andThen_ok,newVar,newRow,run_newObj,Sem.run_pure];rfl
theorem L4 {P:Program} {t:TypeId} {d:Nat} {v:AV} {cv:Value} {K:St->Prop} (hs:Sat ds n μ0 ρ0 w0 ρ μ σ a w) (hv:Rv ρ (some μ) v cv) (hsol:v.zl=true) (h:qV n d ⟨t,false,v.cells⟩ (.ref (n+d) 0) σ K) :
  ∃cp w' μ' σ',(Instr.box t cv).run P w=.ok cp w'/\Sat ds n μ0 ρ0 w0 ρ μ' σ' (a.put (some d) cp) w'/\K σ':=by
 obtain ⟨hl,hr⟩:=qT hsol hv;obtain ⟨μ',σ',h1,h2⟩:=hs.alloc (e:=t) (c:=cv.cells) (cp:=.pointer (some ⟨w.heap.size,0,none⟩)) h (Nat.le_of_eq hl) hr (fun μ' hm=>by
  have:=Rv.ref (ρ:=ρ) μ' (n+d) 0;rw[hm] at this;exact this)
 refine⟨_,_,μ',σ',?_,h1,h2⟩;simp only[Instr.box,Sem.run_bind,Result.andThen_ok,newVar,newRow,run_newObj,Sem.run_pure];rfl
theorem kg {z:List AV}:∀(m:Nat),((List.replicate m z).flatten).length=m*z.length/\∀i,i<m->∀j,j<z.length->((List.replicate m z).flatten).getD (i*z.length+j) .undef=z.getD j .undef:=by
 intro m;induction m with
 |zero=>exact⟨by simp,fun i hi=>by omega⟩
 |succ m ih =>
  refine⟨by simp[Nat.add_mul,ih.1,List.replicate_succ];omega,fun i hi j hj=>?_⟩;simp only[List.replicate_succ,List.flatten_cons,List.getD,List.getElem?_append];cases i with
  |zero=>rw[if_pos (by omega)];simp
  |succ i =>
   have e:(i+1)*z.length+j=z.length+(i*z.length+j):=by rw[Nat.add_mul];omega
   rw[if_neg (by omega),e,Nat.add_sub_cancel_left];have:=ih.2 i (by omega) j hj;simpa[List.getD] using this
theorem UA {P:Program} {t e:TypeId} {d:Nat} {x y z:AV} {cx cy:Value} {k k':IntKind} {l c:Int} {p q:Bool} {K:St->Prop} (hs:Sat ds n μ0 ρ0 w0 ρ μ σ a w) (hu:P.underlying t=some (.slice e))
  (hx:Rv ρ (some μ) x cx) (hy:Rv ρ (some μ) y cy) (hl:x.zu=some (k,l,p)) (hc:y.zu=some (k',c,q)) (hz:wz P e=some z) (hzt:z.tree=true)
  (h0:0<=l) (h1:l<=c) (hb:(c+1)*(P.bytesOf e+1)<=2 ^ 48) (hsz:0<P.cellsOf e) (hzl:z.cells.length=P.cellsOf e)
  (h:qV n d ⟨e,true,(List.replicate l.toNat z.norm.cells).flatten⟩ (.aslc (n+d) 0 l.toNat (P.cellsOf e) (yf P e)) σ K) :
  ∃cv w' μ' σ',(Instr.makeSlice t cx cy).run P w=.ok cv w'/\Sat ds n μ0 ρ0 w0 ρ μ' σ' (a.put (some d) cv) w'/\K σ':=by
 obtain ⟨cz,hzr,hzs,rfl⟩:=jF hz w;obtain ⟨hzl',hzc⟩:=qT (UK hzs) ((Rv.ofV ρ (some μ) cz).zn hzt).norm;rw[xg] at hzl';rw[yA hl hx,yA hc hy];obtain ⟨ln,rfl⟩:∃m:Nat,l=m:=⟨l.toNat,by omega⟩;obtain ⟨cn,rfl⟩:∃m:Nat,c=m:=⟨c.toNat,by omega⟩;simp only[Int.toNat_natCast] at h;have hi:∃i,(typeInfo e).run P w=.ok i w/\i.bytes=P.bytesOf e/\(sizeOf e).run P w=.ok (P.cellsOf e) w:=by
  have:∃i,P.info? e=some i:=by
   cases hh:P.info? e with
   |none=>simp[wz,hh] at hz
   |some i=>exact⟨i,rfl⟩
  obtain ⟨i,hi⟩:=this;exact⟨i,by simp[typeInfo,hi],by simp[Program.bytesOf,hi],by simp[sizeOf,typeInfo,hi,Program.cellsOf]⟩
 obtain ⟨i,hi1,hi2,hi3⟩:=hi;have hcb:(cn:Int)<=2 ^ 48:=by
  have:((cn:Int)+1)*1<=((cn:Int)+1)*(P.bytesOf e+1):=Int.mul_le_mul_of_nonneg_left (by omega) (by omega);omega
 have wl:IntKind.i64.wrap (ln:Int)=ln:=IntWalk.i64_in _ (by omega);have wc:IntKind.i64.wrap (cn:Int)=cn:=IntWalk.i64_in _ (by omega);have hbytes:((P.bytesOf e:Int)*cn)<=2 ^ 48:=by
  have e1:((cn:Int)+1)*(P.bytesOf e+1)=(P.bytesOf e:Int)*cn+(P.bytesOf e:Int)+cn+1:=by
   rw[Int.add_mul,Int.mul_add,Int.mul_comm (cn:Int)];omega
  omega
 let arr:Array Value:=(Array.range (cn*P.cellsOf e)).map (cz.cells[· % cz.cells.size]!)
 have hasz:arr.size=cn*P.cellsOf e:=by simp[arr]
 obtain ⟨f1,f2⟩:=kg (z:=(ofV cz).norm.cells) ln;rw[xg,hzl] at f1 f2;obtain ⟨μ',σ',g1,g2⟩:=hs.alloc (e:=e) (c:=arr) (cp:=.slice (some ⟨w.heap.size,0,none⟩) ln cn) h (by
   show ((List.replicate ln (ofV cz).norm.cells).flatten).length<=_;rw[f1,hasz];exact Nat.mul_le_mul_right _ (by omega)) (by
   intro j;show Rv ρ none (((List.replicate ln (ofV cz).norm.cells).flatten).getD j .undef) _;rcases Nat.lt_or_ge j (ln*P.cellsOf e) with hj | hj
   ·have hd:j / P.cellsOf e<ln:=Nat.div_lt_of_lt_mul (by rwa[Nat.mul_comm]);have hm:j % P.cellsOf e<P.cellsOf e:=Nat.mod_lt _ hsz;have e1:=f2 (j / P.cellsOf e) hd (j % P.cellsOf e) hm;rw[Nat.mul_comm,Nat.div_add_mod] at e1;rw[e1];have hjc:j<cn*P.cellsOf e:=Nat.lt_of_lt_of_le hj (Nat.mul_le_mul_right _ (by omega));have e2:arr.getD j Go.undef=cz.cells.getD (j % P.cellsOf e) Go.undef:=by
     have hs':cz.cells.size=P.cellsOf e:=by omega
     have:j % cz.cells.size<cz.cells.size:=by rw[hs'];exact hm
     rw[Array.getD,dif_pos (by rw[hasz];exact hjc)];simp only[arr,Array.getElem_map,Array.getElem_range,Array.getInternal_eq_getElem];rw[getElem!_pos cz.cells (j % cz.cells.size) this,Array.getD,dif_pos (by rw[hs'];exact hm)];simp only[Array.getInternal_eq_getElem,hs']
    rw[e2];exact hzc _
   ·rw[yH (by rw[f1];exact hj)];exact .undef ..)
  (fun μ' hm=>by
   have:=Rv.aslc (ρ:=ρ) μ' (n+d) 0 ln (P.cellsOf e) (yf P e) cn (by omega) (by rw[hm];simp only[Nat.zero_add];omega);rw[hm] at this;exact this)
 refine⟨_,_,μ',σ',?_,g1,g2⟩;simp only[Instr.makeSlice,Sem.run_bind,run_underlying hu,Result.andThen_ok,asInt,asIntOf,Sem.run_pure,hi1,hi2,wl,wc];rw[Sem.run_ite,if_neg]
 ·simp only[Sem.run_bind,run_askRoom,Result.andThen_ok,hi3,Int.toNat_natCast];by_cases hn:cn*P.cellsOf e=0
  ·have hc0:cn=0:=by rcases Nat.mul_eq_zero.1 hn with h | h<;>omega
   subst hc0;simp only[Nat.zero_mul,if_true,Sem.run_pure,Result.andThen_ok,newRow,Sem.run_bind,run_newObj];have e1:∀g:Nat->Value,(Array.range 0).map g=arr:=fun g=>by simp[arr]
   rw[e1];rfl
  ·rw[Sem.run_ite,if_neg hn];simp only[Sem.run_bind,hzr,Result.andThen_ok,Sem.run_pure,newRow,run_newObj];rfl
 ·simp only[Bool.or_eq_true,decide_eq_true_eq,not_or];refine⟨⟨⟨by omega,by omega⟩,by omega⟩,by omega⟩
end
end Go.Proofs.YtkojpnkknehhmaaGreatDoor

/- Literals of slices; slices of boxes as slices of memory that nobody writes. Calls by contract. Calls by contract: the evaluator's step holds. -/
import Derived.Test.YtkojpnkknehhmaaGreatDoorR10
namespace Go.Proofs.YtkojpnkknehhmaaGreatDoor
open Go.RowKit
theorem Nd {ρ:RO} {lv:Option Lay} {zc:List AV} {c:Array Value} (hl:zc.length=c.size) (hr:RvC ρ lv zc c) (hpos:0<c.size) (m:Nat) :
  RvC ρ lv ((List.replicate m zc).flatten) ((Array.range (m*c.size)).map (c[· % c.size]!)):=by
 intro j;obtain ⟨f1,f2⟩:=kg (z:=zc) m;rw[hl] at f1 f2;rcases Nat.lt_or_ge j (m*c.size) with hj | hj
 ·have hd:j / c.size<m:=Nat.div_lt_of_lt_mul (by rwa[Nat.mul_comm]);have hm:j % c.size<c.size:=Nat.mod_lt _ hpos;have e1:=f2 (j / c.size) hd (j % c.size) hm;rw[Nat.mul_comm,Nat.div_add_mod] at e1;rw[e1];have e2:((Array.range (m*c.size)).map (c[· % c.size]!)).getD j Go.undef=c.getD (j % c.size) Go.undef:=by
   rw[Array.getD,dif_pos (by simpa using hj)];simp only[Array.getElem_map,Array.getElem_range,Array.getInternal_eq_getElem];rw[getElem!_pos c (j % c.size) hm,Array.getD,dif_pos hm];simp only[Array.getInternal_eq_getElem]
  rw[e2];exact hr _
 ·rw[yH (by rw[f1];exact hj)];exact .undef ..
theorem QI {k:Nat}:∀(n:Nat) (cs:List AV),(kf k n cs).length=n/\∀i,i<n->(kf k n cs).getD i .undef=.agg ((cs.drop (i*k)).take k):=by
 intro n;induction n with
 |zero=>intro cs;exact⟨rfl,fun i hi=>by omega⟩
 |succ n ih =>
  intro cs;obtain ⟨h1,h2⟩:=ih (cs.drop k);refine⟨by simp[kf,h1],fun i hi=>?_⟩;cases i with
  |zero=>simp[kf]
  |succ i =>
   have:=h2 i (by omega);simp only[kf,List.getD,List.getElem?_cons_succ] at this ⊢;rw[this,List.drop_drop];congr 3;rw[Nat.add_mul];omega
theorem T8 {v:AV} (h:v.one=true):v.cells=[v]:=by cases v<;>simp_all [AV.one,AV.cells]
theorem Rv.chunks {ρ:RO} {μ:Option Lay} {B o:Nat} {cs:List AV} {c:Nat->Value} {esz len cap m:Nat} {ag:Bool} (hl:len*esz<=cs.length) (hag:ag=false->esz=1/\yn cs=true)
  (hc:∀j,j<len*esz->ρ.cell B (o+j)=some (c j)) (hr:∀j,Rv ρ none (cs.getD j .undef) (c j)) (hcap:len<=cap) (hm:m≠0) (h2:m=2->cap=len) :
  Rv ρ μ (.slc m (chunks esz ag len cs)) (.slice (some ⟨B,o,none⟩) len cap):=by
 have hin:∀i,i<len->∀j,j<esz->i*esz+j<len*esz:=by
  intro i hi j hj;have:(i+1)*esz<=len*esz:=Nat.mul_le_mul_right _ (by omega);rw[Nat.add_mul] at this;omega
 cases ag with
 |true =>
  obtain ⟨h3,h4⟩:=QI (k:=esz) len cs;have h3':(Go.Proofs.YtkojpnkknehhmaaGreatDoor.chunks esz true len cs).length=len:=h3;have hel:∀i,i<len->(Go.Proofs.YtkojpnkknehhmaaGreatDoor.chunks esz true len cs).getD i .undef=.agg ((cs.drop (i*esz)).take esz):=h4;have:=Rv.slc (ρ:=ρ) μ m (Go.Proofs.YtkojpnkknehhmaaGreatDoor.chunks esz true len cs) B o cap esz (fun i j=>c (i*esz+j)) hm (by omega) (by rw[h3'];exact h2)
   (fun i hi=>by
    rw[hel i (by omega)];have:=hin i (by omega);simp only[AV.cells,List.length_take,List.length_drop];rcases Nat.eq_zero_or_pos esz with h | h
    ·omega
    ·have:=this (esz-1) (by omega);omega)
   (fun i hi j hj=>by rw[Nat.add_assoc];exact hc _ (hin i (by omega) j hj))
   (fun i j=>by
    rcases Nat.lt_or_ge i len with hi | hi
    ·rw[hel i hi];simp only[AV.cells];rcases Nat.lt_or_ge j esz with hj | hj
     ·have:((cs.drop (i*esz)).take esz).getD j .undef=cs.getD (i*esz+j) .undef:=by simp[List.getD,hj]
      rw[this];exact hr _
     ·rw[yH (by simp;omega)];exact .undef ..
    ·rw[show (Go.Proofs.YtkojpnkknehhmaaGreatDoor.chunks esz true len cs).getD i .undef=.undef from yH (by omega)];cases j<;>exact .undef ..)
  rw[h3'] at this;exact this
 |false =>
  obtain ⟨rfl,hone⟩:=hag rfl;have h3':(Go.Proofs.YtkojpnkknehhmaaGreatDoor.chunks 1 false len cs).length=len:=by simp[Go.Proofs.YtkojpnkknehhmaaGreatDoor.chunks];omega
  have hel:∀i,i<len->(Go.Proofs.YtkojpnkknehhmaaGreatDoor.chunks 1 false len cs).getD i .undef=cs.getD i .undef:=by
   intro i hi;simp[Go.Proofs.YtkojpnkknehhmaaGreatDoor.chunks,List.getD,hi]
  have hcell:∀i,i<len->(cs.getD i .undef).cells=[cs.getD i .undef]:=by
   intro i hi;apply T8;have:i<cs.length:=by omega
   simp only[List.getD,List.getElem?_eq_getElem this,Option.getD_some];exact List.all_eq_true.1 hone _ (List.getElem_mem this)
  have:=Rv.slc (ρ:=ρ) μ m (Go.Proofs.YtkojpnkknehhmaaGreatDoor.chunks 1 false len cs) B o cap 1 (fun i j=>c (i*1+j)) hm (by omega) (by rw[h3'];exact h2)
   (fun i hi=>by rw[hel i (by omega),hcell i (by omega)];rfl)
   (fun i hi j hj=>by rw[Nat.add_assoc];exact hc _ (hin i (by omega) j hj))
   (fun i j=>by
    rcases Nat.lt_or_ge i len with hi | hi
    ·rw[hel i hi,hcell i hi];cases j with
     |zero=>simpa using hr i
     |succ j=>exact .undef ..
    ·rw[show (Go.Proofs.YtkojpnkknehhmaaGreatDoor.chunks 1 false len cs).getD i .undef=.undef from yH (by omega)];cases j<;>exact .undef ..)
  rw[h3'] at this;exact this
theorem OR {l:List AV} (h:yn l=true):yn (AV.zb l)=true:=by
 induction l with
 |nil=>rfl
 |cons x r ih =>
  simp only[yn,AV.zb,List.all_cons,Bool.and_eq_true] at h ⊢;refine⟨?_,ih h.2⟩;cases x<;>simp_all [AV.one,AV.norm]
section
variable {ds:List Deferred} {n:Nat} {μ0:Lay} {ρ0:RO} {w0:World} {ρ:RO} {μ:Lay} {σ:St} {a:Act} {w:World}
theorem uh {P:Program} {t e:TypeId} {len:Nat} {ps:Array (Nat × Operand)} {z:AV} {out:List AV} (hs:Sat ds n μ0 ρ0 w0 ρ μ σ a w) (hu:P.underlying t=some (.slice e)) (hz:wz P e=some z)
  (h1:len*P.cellsOf e<=2 ^ 20) (h2:0<P.cellsOf e) (h3:z.cells.length=P.cellsOf e) (_h4:yf P e=false->P.cellsOf e=1) (h5:(P.underlying e).isSome=true)
  (hf:ur (fun i=>some (i*P.cellsOf e,P.cellsOf e)) ((List.replicate len z.cells).flatten) (ps.toList.map fun p=>(p.1,ev σ p.2))=some out) (ht:AV.zi out=true) (_hone:yn out=true) :
  ∃c':Array Value,(Instr.buildSlice t len (ps.map fun (i,x)=>(i,a.eval x))).run P w=.ok (.slice (some ⟨w.heap.size,0,none⟩) len len) (w.alloc (.cells c' e))/\c'.size=len*P.cellsOf e /\
   out.length=len*P.cellsOf e/\∀j,Rv ρ none ((AV.zb out).getD j .undef) (c'.getD j Go.undef):=by
 obtain ⟨de,hde⟩:∃d,P.underlying e=some d:=by cases hh:P.underlying e<;>simp_all
 obtain ⟨cz,hzr,hzs,rfl⟩:=jF hz w;obtain ⟨hzl,hzc⟩:=qT hzs (Rv.ofV ρ (some μ) cz);have hcz:cz.cells.size=P.cellsOf e:=by omega
 have hz0:=Nd (ρ:=ρ) (lv:=some μ) hzl hzc (by omega) len;have hfl:=(kg (z:=(ofV cz).cells) len).1;obtain ⟨hp1,hp2⟩:=UL (fun x=>hs.eval x) ps _ rfl;obtain ⟨c',g1,g2,g3⟩:=YA _ _ _ out _ hp1 hp2 (by rw[hfl,h3];simp[hcz]) hz0 hf;have hsz:out.length=len*P.cellsOf e:=by
  have key:∀(l:List (Nat × AV)) (x y:List AV),ur (fun i=>some (i*P.cellsOf e,P.cellsOf e)) x l=some y->y.length=x.length:=by
   intro l;induction l with
   |nil=>intro x y h;cases h;rfl
   |cons p r ih =>
    intro x y h;obtain ⟨i,v⟩:=p;simp only[ur] at h;split at h
    ·cases h
    ·rename_i hc;simp only[not_or,Bool.not_eq_false,ne_eq,Decidable.not_not,gt_iff_lt,Nat.not_lt] at hc;rw[ih _ _ h,wE (by omega)]
  rw[key _ _ _ hf,hfl,h3]
 refine⟨c',?_,by omega,hsz,fun j=>by rw[yP];exact((g3 j).zn (qU ht j)).norm⟩
 ·simp only[Instr.buildSlice,Sem.run_bind,run_underlying hu,Result.andThen_ok,yD hde];rw[Sem.run_ite,if_neg (by
   have:(2:Nat) ^ 20<=2 ^ 24:=by decide
   omega)]
  have hfill:∀zc:Array Value,(len*P.cellsOf e=0\/zc=cz.cells)->Instr.fill (fun i=>some (i*P.cellsOf e,P.cellsOf e)) ((Array.range (len*P.cellsOf e)).map (zc[· % zc.size]!)) (ps.map fun (i,x)=>(i,a.eval x)).toList=some c':=by
   intro zc hzz;rw[<- g1];congr 1;rcases hzz with h0 | rfl
   ·have:len=0:=by rcases Nat.mul_eq_zero.1 h0 with h | h<;>omega
    subst this;simp
   ·rw[hcz]
  by_cases h0:len*P.cellsOf e=0
  ·simp only[Sem.run_bind,h0,if_true,Sem.run_pure,Result.andThen_ok];have:=hfill #[] (.inl h0);rw[h0] at this;rw[this];simp only[newRow,Sem.run_bind,run_newObj,Result.andThen_ok,Sem.run_pure];rfl
  ·simp only[Sem.run_bind,Sem.run_ite];rw[if_neg h0];simp only[hzr,Result.andThen_ok,Sem.run_pure];rw[hfill _ (.inr rfl)];simp only[newRow,Sem.run_bind,run_newObj,Result.andThen_ok,Sem.run_pure];rfl
theorem Wr {P:Program} {t e:TypeId} {len:Nat} {ps:Array (Nat × Operand)} {z:AV} {out:List AV} (hs:Sat ds n μ0 ρ0 w0 ρ μ σ a w) (hu:P.underlying t=some (.slice e)) (hz:wz P e=some z)
  (h1:len*P.cellsOf e<=2 ^ 20) (h2:0<P.cellsOf e) (h3:z.cells.length=P.cellsOf e) (h4:yf P e=false->P.cellsOf e=1) (h5:(P.underlying e).isSome=true)
  (hf:ur (fun i=>some (i*P.cellsOf e,P.cellsOf e)) ((List.replicate len z.cells).flatten) (ps.toList.map fun p=>(p.1,ev σ p.2))=some out) (ht:AV.zi out=true) (hone:yn out=true) :
  ∃cv w' ρ',(Instr.buildSlice t len (ps.map fun (i,x)=>(i,a.eval x))).run P w=.ok cv w'/\Sat ds n μ0 ρ0 w0 ρ' μ σ a w'/\Rv ρ' (some μ) (.slc 2 (chunks (P.cellsOf e) (yf P e) len (AV.zb out))) cv:=by
 obtain ⟨c',hrun,hcs,hsz,g3⟩:=uh hs hu hz h1 h2 h3 h4 h5 hf ht hone;let ρ':RO:=fun k=>if k=w.heap.size then some (.cells c' e (0,0)) else ρ k
 have hρn:ρ w.heap.size=none:=by
  cases hr:ρ w.heap.size with
  |none=>rfl
  |some o =>
   have:=hs.ro _ _ hr;rw[Array.getElem?_eq_none (Nat.le_refl _)] at this;cases this
 have hle:ρ.le ρ':=by
  intro k o hk;show (if k=w.heap.size then _ else ρ k)=_;rw[if_neg (by rintro rfl;rw[hρn] at hk;cases hk)];exact hk
 refine⟨.slice (some ⟨w.heap.size,0,none⟩) len len,w.alloc (.cells c' e),ρ',hrun,?_,?_⟩
 ·have hw:=qH.alloc w (.cells c' e);refine hs.zv hle ?_ ?_ (fun k hk=>hw.block k (by omega)) hw.size rfl rfl rfl
  ·intro k o hk;by_cases hkk:k=w.heap.size
   ·subst hkk;simp only[ρ',if_true,Option.some.injEq] at hk;subst hk;exact Array.getElem?_push_size
   ·simp only[ρ',hkk,if_false] at hk;rw[hw.block k hkk];exact hs.ro k o hk
  ·intro k o hk h0;by_cases hkk:k=w.heap.size
   ·omega
   ·simp only[ρ',hkk,if_false] at hk;rw[h0] at hk;cases hk
 ·refine Rv.chunks (c:=fun j=>c'.getD j Go.undef) (by rw[yu,hsz];exact Nat.le_refl _) (fun h=>⟨h4 h,OR hone⟩) ?_ ?_ (Nat.le_refl _) (by simp) (fun _=>rfl)
  ·intro j hj;simp only[RO.cell,ρ',if_true,Nat.zero_add];have:j<c'.size:=by omega
   simp[Array.getD,this]
  ·intro j;exact(g3 j).mono hle
theorem XE {P:Program} {t e:TypeId} {len d:Nat} {ps:Array (Nat × Operand)} {z:AV} {out:List AV} {K:St->Prop} (hs:Sat ds n μ0 ρ0 w0 ρ μ σ a w) (hu:P.underlying t=some (.slice e)) (hz:wz P e=some z)
  (h1:len*P.cellsOf e<=2 ^ 20) (h2:0<P.cellsOf e) (h3:z.cells.length=P.cellsOf e) (h4:yf P e=false->P.cellsOf e=1) (h5:(P.underlying e).isSome=true)
  (hf:ur (fun i=>some (i*P.cellsOf e,P.cellsOf e)) ((List.replicate len z.cells).flatten) (ps.toList.map fun p=>(p.1,ev σ p.2))=some out) (ht:AV.zi out=true) (hone:yn out=true)
  (h:qV n d ⟨e,true,AV.zb out⟩ (.aslc (n+d) 0 len (P.cellsOf e) (yf P e)) σ K) :
  ∃cv w' μ' σ',(Instr.buildSlice t len (ps.map fun (i,x)=>(i,a.eval x))).run P w=.ok cv w'/\Sat ds n μ0 ρ0 w0 ρ μ' σ' (a.put (some d) cv) w'/\K σ':=by
 obtain ⟨c',hrun,hcs,hsz,g3⟩:=uh hs hu hz h1 h2 h3 h4 h5 hf ht hone;obtain ⟨μ',σ',g1,g2⟩:=hs.alloc (e:=e) (c:=c') (cp:=.slice (some ⟨w.heap.size,0,none⟩) len len) h (by
   show (AV.zb out).length<=_;rw[yu,hsz,hcs];exact Nat.le_refl _) (fun j=>g3 j)
  (fun μ' hm=>by
   have:=Rv.aslc (ρ:=ρ) μ' (n+d) 0 len (P.cellsOf e) (yf P e) len (Nat.le_refl _) (by rw[hm];simp only[Nat.zero_add];omega);rw[hm] at this;exact this)
 exact⟨_,_,μ',σ',hrun,g1,g2⟩
theorem SH {P:Program} {s d:TypeId} {x v:AV} {cx:Value} (hs:Sat ds n μ0 ρ0 w0 ρ μ σ a w) (hx:Rv ρ (some μ) x cx) (h:bytesOf P s d x=some v) :
  ∃cv w' ρ',(convert s d cx).run P w=.ok cv w'/\Sat ds n μ0 ρ0 w0 ρ' μ σ a w'/\Rv ρ' (some μ) v cv:=by
 unfold bytesOf at h;split at h
 case h_2=>cases h
 rename_i e b h1 h2;split at h
 case h_2=>cases h
 rename_i h3;cases h;cases hx with
 |str _ _ =>
  let cap:=grownCap w b.size 0 e
  have hcap:b.size<=cap:=by
   show b.size<=b.size+_;exact Nat.le_add_right _ _
  let c':=bytesRow b cap
  let o:Obj:=.cells c' e (c'.size,c'.size+1)
  let ρ':RO:=fun k=>if k=w.heap.size then some o else ρ k
  have hρn:ρ w.heap.size=none:=by
   cases hr:ρ w.heap.size with
   |none=>rfl
   |some o =>
    have:=hs.ro _ _ hr;rw[Array.getElem?_eq_none (Nat.le_refl _)] at this;cases this
  have hle:ρ.le ρ':=by
   intro k o hk;show (if k=w.heap.size then _ else ρ k)=_;rw[if_neg (by rintro rfl;rw[hρn] at hk;cases hk)];exact hk
  have hsd:=hs.drawn (w.drawn+1);refine⟨_,_,ρ',run_bytes_of_string w s d e b h1 h2 h3,?_,?_⟩
  ·have hw:=qH.alloc w.drew o;refine hsd.zv hle ?_ ?_ (fun k hk=>hw.block k (by have:w.drew.heap.size=w.heap.size:=rfl;have:({ w with drawn:=w.drawn+1 }:World).heap.size=w.heap.size:=rfl;omega)) hw.size rfl rfl rfl
   ·intro k o' hk;by_cases hkk:k=w.heap.size
    ·subst hkk;simp only[ρ',if_true,Option.some.injEq] at hk;subst hk;exact Array.getElem?_push_size
    ·simp only[ρ',hkk,if_false] at hk;rw[hw.block k hkk];exact hs.ro k o' hk
   ·intro k o' hk h0;by_cases hkk:k=w.heap.size
    ·show w.heap.size<=k;omega
    ·simp only[ρ',hkk,if_false] at hk;rw[h0] at hk;cases hk
  ·have hl:(wC b).length=b.size:=by simp[wC]
   have key:∀i,i<b.size->(wC b).getD i .undef=.int .u8 (b.data.toList.getD i 0).toNat/\c'[i]? = some (.int .u8 (b.data.toList.getD i 0).toNat):=by
    intro i hi;have hi':i<b.data.toList.length:=by simpa using hi
    have hi2:i<b.data.size:=hi;constructor
    ·simp[wC,List.getD,List.getElem?_eq_getElem hi']
    ·simp only[c',bytesRow];rw[Array.getElem?_append_left (by simpa using hi2)];simp[List.getD,List.getElem?_eq_getElem hi',Array.getElem?_eq_getElem hi2]
   have:=Rv.slc (ρ:=ρ') (some μ) 3 (wC b) w.heap.size 0 cap 1 (fun i _=>.int .u8 (b.data.toList.getD i 0).toNat) (by decide) (by omega) (fun h=>absurd h (by decide))
    (fun i hi=>by rw[(key i (by omega)).1];rfl)
    (fun i hi j hj=>by
     have hj0:j=0:=by omega
     subst hj0;simp only[RO.cell,ρ',if_true,o,Nat.zero_add,Nat.mul_one,Nat.add_zero];exact(key i (by omega)).2)
    (fun i j=>by
     rcases Nat.lt_or_ge i b.size with hi | hi
     ·rw[(key i hi).1];cases j with
      |zero=>exact .int ..
      |succ j=>exact .undef ..
     ·rw[yH (l:=wC b) (j:=i) (by rw[hl];exact hi)];cases j<;>exact .undef ..)
   rw[hl] at this;exact this
end
theorem xc {b:Nat}:∀ {B:List Nat} {i:Nat},idx b B=some i->B[i]? = some b:=by
 intro B;induction B with
 |nil=>intro i h;cases h
 |cons x r ih =>
  intro i h;simp only[idx] at h;split at h
  ·rename_i hx;cases h;simp[hx]
  ·obtain ⟨j,hj,rfl⟩:=Option.map_eq_some_iff.1 h;simpa using ih hj
theorem Q7 {b:Nat}:∀ {B:List Nat},idx b B=none->b∉B:=by
 intro B;induction B with
 |nil=>intro _;simp
 |cons x r ih =>
  intro h;simp only[idx] at h;split at h
  ·cases h
  ·rename_i hx;have:=ih (Option.map_eq_none_iff.1 h);simp only[List.mem_cons,not_or];exact⟨Ne.symm hx,this⟩
theorem u6 {g:Nat->Option Bx}:∀ {B:List Nat} {bs:List Bx},B.mapM g=some bs->bs.length=B.length/\∀(i b:Nat),B[i]? = some b->∃x,bs[i]? = some x/\g b=some x:=by
 intro B;induction B with
 |nil=>intro bs h;cases h;exact⟨rfl,fun i b hi=>by simp at hi⟩
 |cons x r ih =>
  intro bs h;rw[List.mapM_cons] at h;cases hx:g x with
  |none=>simp[hx] at h
  |some y =>
   cases hr:r.mapM g with
   |none=>simp[hx,hr] at h
   |some ys =>
    simp only[hx,hr,Option.bind_eq_bind,Option.bind_some,Option.pure_def,Option.some.injEq] at h;subst h;obtain ⟨h1,h2⟩:=ih hr;refine⟨by simp[h1],fun i b hi=>?_⟩;cases i with
    |zero=>simp only[List.getElem?_cons_zero,Option.some.injEq] at hi;subst hi;exact⟨y,by simp,hx⟩
    |succ i=>simpa using h2 i b (by simpa using hi)
theorem jX (g:Nat->Option (List AV)) (l:List AV) (j:Nat):(AV.ze g l).getD j .undef=(l.getD j .undef).snap g:=by
 induction l generalizing j with
 |nil=>rfl
 |cons x r ih=>cases j<;>simp_all [AV.ze]
theorem jd (g:Nat->Option (List AV)) (l:List AV):(AV.ze g l).length=l.length:=by induction l<;>simp_all [AV.ze]
theorem qf {l:List AV} {t:Nat × Nat × Nat × Bool} {j:Nat} (h:t∈(l.getD j .undef).zf):t∈AV.za l:=by
 induction l generalizing j with
 |nil=>simp[AV.zf] at h
 |cons x r ih =>
  simp only[AV.za,List.mem_append];cases j with
  |zero=>exact .inl h
  |succ j=>exact .inr (ih (by simpa using h))
def okA (g:Nat->Option (List AV)) (t:Nat × Nat × Nat × Bool):Prop:=∀cs,g t.1=some cs->t.2.1<=cs.length/\(t.2.2.2=false->t.2.2.1=1/\yn cs=true)
theorem xO {g:Nat->Option (List AV)} {K:Prop}:∀ {l:List (Nat × Nat × Nat × Bool)},q8 g l K->(∀t∈l,okA g t)/\K:=by
 intro l;induction l with
 |nil=>intro h;exact⟨by simp,h⟩
 |cons t r ih =>
  obtain ⟨b,m,esz,ag⟩:=t;intro h;simp only[q8] at h;split at h
  ·rename_i cs hb;split at h
   ·rename_i ha;obtain ⟨h1,h2⟩:=ih h.2;refine⟨fun t ht=>?_,h2⟩;rcases List.mem_cons.1 ht with rfl | ht
    ·intro cs' hcs;simp only[hb,Option.some.injEq] at hcs;subst hcs;exact⟨h.1,by simp[ha]⟩
    ·exact h1 t ht
   ·split at h
    ·rename_i he;obtain ⟨h1,h2⟩:=ih h.2;refine⟨fun t ht=>?_,h2⟩;rcases List.mem_cons.1 ht with rfl | ht
     ·intro cs' hcs;simp only[hb,Option.some.injEq] at hcs;subst hcs;exact⟨h.1.1,fun _=>⟨he,h.1.2⟩⟩
     ·exact h1 t ht
    ·exact h.elim
  ·rename_i hb;obtain ⟨h1,h2⟩:=ih h;refine⟨fun t ht=>?_,h2⟩;rcases List.mem_cons.1 ht with rfl | ht
   ·intro cs' hcs;simp only[hb] at hcs;cases hcs
   ·exact h1 t ht
theorem N4 {ρ:RO} {w:World} {B j:Nat} {v:Value} (h:w.cell? ⟨B,j,none⟩=some v) (hb:ρ B=w.heap[B]?):ρ.cell B j=some v:=by
 unfold World.cell? at h;unfold RO.cell;rw[hb];split at h
 ·rename_i c e fr hh;simpa[hh] using h
 ·cases h
section
variable {ds:List Deferred} {n:Nat} {μ0:Lay} {ρ0:RO} {w0:World} {ρ:RO} {μ:Lay} {σ:St} {a:Act} {w:World}
theorem XD {b:Nat} {cs:List AV} (h:σ.zg b=some cs):∃x,σ.bx.getD b none=some x/\cs.length=x.cs.length:=by
 unfold St.zg at h;split at h
 ·rename_i x hx;refine⟨x,hx,?_⟩;split at h
  ·cases h
  split at h
  ·cases h;rfl
  ·split at h
   ·cases h;exact yu _
   ·cases h
 ·cases h
theorem Sat.snap (hs:Sat ds n μ0 ρ0 w0 ρ μ σ a w) {ρc:RO} (hle:ρ.le ρc) {snaps:List Nat} (hblk:∀b x,b∈snaps->σ.bx.getD b none=some x->(μ b).2≠0->ρc (μ b).1=w.heap[(μ b).1]?)
  {v:AV} {cv:Value} (hv:Rv ρ (some μ) v cv) (hok:∀t∈v.zf,t.1∈snaps/\okA σ.zg t):Rv ρc (some μ) (v.snap σ.zg) cv:=by
 generalize hn:some μ=o at hv;induction hv with
 |undef _ v=>exact .undef _ v
 |tt _=>exact .tt _
 |ff _=>exact .ff _
 |bool _ b=>exact .bool _ b
 |lit _ k n=>exact .lit _ k n
 |int _ k n=>exact .int _ k n
 |str _ s=>exact .str _ s
 |nilp _=>exact .nilp _
 |eptr _ cs b o off c hc _ ih=>exact .eptr _ _ b o off c (fun j hj=>hle.cell (hc j (by rw[jd] at hj;exact hj))) (fun j=>by rw[jX];exact ih j (fun t ht=>hok t (by simp only[AV.zf];exact qf ht)) hn)
 |ref m b off=>cases hn;exact .ref μ b off
 |nilslc _ m=>exact .nilslc _ m
 |eslc _ m a hm=>exact .eslc _ m a hm
 |slc _ m es b o cap k c hm hcap h2 hk hc h _=>exact(Rv.slc _ m es b o cap k c hm hcap h2 hk hc h).mono hle
 |aslc m b off len esz ag cap hcap hr =>
  cases hn;obtain ⟨hmem,hok'⟩:=hok (b,off+len*esz,esz,ag) (by simp[AV.zf]);cases hb:σ.zg b with
  |none=>simp only[AV.snap,hb];exact .undef ..
  |some cs =>
   simp only[AV.snap,hb];obtain ⟨hfit,hag⟩:=hok' cs hb;simp only at hfit hag;obtain ⟨f,g1,g2⟩:=hs.zO hb;obtain ⟨x,hx,hxl⟩:=XD hb;have hlen:=(hs.box b x hx).len;refine Rv.chunks (c:=fun j=>f (off+j)) (by simp;omega) (fun h=>⟨(hag h).1,?_⟩) ?_ ?_ hcap (by simp) (by simp)
   ·have:=(hag h).2;unfold yn at this ⊢;rw[List.all_eq_true] at this ⊢;exact fun v hv=>this v (List.mem_of_mem_drop hv)
   ·intro j hj;have h1:=g1 (off+j) (by omega);rw[Nat.zero_add] at h1;exact N4 h1 (hblk b x hmem hx (by omega))
   ·intro j;have:(cs.drop off).getD j .undef=cs.getD (off+j) .undef:=by simp[List.getD]
    rw[this];exact(g2 _).mono hle
 |aslc0 m b esz ag p =>
  cases hb:σ.zg b with
  |none=>simp only[AV.snap,hb];exact .undef ..
  |some cs =>
   simp only[AV.snap,hb];have:chunks esz ag 0 (cs.drop 0)=[]:=by cases ag<;>simp[chunks,kf]
   rw[this];cases p with
   |none=>exact .nilslc _ 3
   |some x=>exact .eslc _ 3 x (by simp)
 |fn _ g first caps vf vc hf' hc _ _ ih1 ih2 =>
  exact .fn _ g _ _ vf vc (by rw[jd];exact hf') (by rw[jd];exact hc)
   (fun j=>by rw[jX];exact ih1 j (fun t ht=>hok t (by simp[AV.zf,qf ht])) hn) (fun j=>by rw[jX];exact ih2 j (fun t ht=>hok t (by simp[AV.zf,qf ht])) hn)
 |nilfn _=>exact .nilfn _
 |iface _ t v v' _ ih=>exact .iface _ t _ v' (ih (fun t ht=>hok t (by simpa[AV.zf] using ht)) hn)
 |nilif _=>exact .nilif _
 |agg _ cs vs hl _ ih=>exact .agg _ _ vs (by rw[jd];exact hl) (fun j=>by rw[jX];exact ih j (fun t ht=>hok t (by simp[AV.zf,qf ht])) hn)
 |tup _ cs vs hl _ ih=>exact .tup _ _ vs (by rw[jd];exact hl) (fun j=>by rw[jX];exact ih j (fun t ht=>hok t (by simp[AV.zf,qf ht])) hn)
 |map m b=>cases hn;exact .map μ b
 |nilmap _=>exact .nilmap _
 |yld _ l=>exact .yld _ l
theorem Sat.called (hs:Sat ds n μ0 ρ0 w0 ρ μ σ a w) {B:List Nat} {bx':List (Option Bx)} {ρn:RO} {w':World}
  (hbx:∀b x,bx'.getD b none=some x->(b∉B/\σ.bx.getD b none=some x)\/(b∈B/\(σ.bx.getD b none).isSome=true/\x.arr=false/\vQ ρn (some μ) μ w' b x.cs))
  (hle:ρ.le ρn) (hro:∀k o,ρn k=some o->w'.heap[k]? = some o) (hnew:∀k o,ρn k=some o->ρ k=none->w.heap.size<=k\/∃b x,σ.bx.getD b none=some x/\(μ b).2≠0/\(μ b).1=k/\b∉B/\bx'.getD b none=none/\n<=b)
  (hframe:∀k,k<w.heap.size->(∀b,b∈B->(μ b).2≠0->k≠(μ b).1)->w'.heap[k]? = w.heap[k]?) (hsz:w.heap.size<=w'.heap.size) (hos:w'.os=w.os) (ht:w'.tape=w.tape) (hout:w'.output=w.output)
  (hB:∀b∈B,(σ.bx.getD b none).isSome=true) :
  Sat ds n μ0 ρ0 w0 ρn μ { σ with bx:=bx' } a w':=by
 have qh:∀b x,bx'.getD b none=some x->∃y,σ.bx.getD b none=some y:=by
  intro b x h;rcases hbx b x h with ⟨_,h⟩ | ⟨_,h,_⟩
  ·exact⟨_,h⟩
  ·exact Option.isSome_iff_exists.1 h
 have liveB:∀b cs,({ σ with bx:=bx' }:St).box b=some cs->∃cs',σ.box b=some cs':=by
  intro b cs h;obtain ⟨x,hx,-⟩:=yK h;obtain ⟨y,hy⟩:=qh b x hx;exact⟨_,yi hy⟩
 have blkLt:∀b x,σ.bx.getD b none=some x->(μ b).2≠0->(μ b).1<w.heap.size:=by
  intro b x hb hk;rcases (hs.box b x hb).blk with h0 | ⟨o,h,_⟩
  ·exact absurd h0 hk
  ·exact(Array.getElem?_eq_some_iff.1 h).1
 refine { gl:=hs.gl,dfe:=hs.dfe,defs:=hs.defs.mono hle,sz:=hs.sz,sl:=fun t=>(hs.sl t).mono hle,box:=?_,inj:=?_,sep:=?_,own:=?_,inc:=hs.inc,ro:=hro,le:=hs.le.trans hle,new:=?_,frame:=?_,size:=Nat.le_trans hs.size hsz,os:=hos.trans hs.os,tape:=ht.trans hs.tape,output:=hout.trans hs.output }
 ·intro b x h;rcases hbx b x h with ⟨hnB,h⟩ | ⟨hB',_,ha,hat⟩
  ·obtain ⟨h1,h2⟩:=hs.box b x h;refine⟨h1,?_⟩;rcases h2 with h2 | ⟨o,h3,h5⟩
   ·exact .inl h2
   ·by_cases hk:(μ b).2=0
    ·exact .inl hk
    ·refine .inr ⟨o,?_,h5.imp rfl fun j cv hj=>hj.mono hle⟩;rw[hframe _ (blkLt b x h hk) ?_]
     ·exact h3
     ·intro b' hb' hk' he;obtain ⟨y,hy⟩:=Option.isSome_iff_exists.1 (hB b' hb');exact hs.inj b b' _ _ (yi h) (yi hy) (by rintro rfl;exact hnB hb') hk hk' he
  ·have:lev μ x=some μ:=by unfold lev;rw[if_neg (by simp[ha])]
   rw[this];exact hat
 ·intro b b' cs cs' h h';obtain ⟨_,g⟩:=liveB b cs h;obtain ⟨_,g'⟩:=liveB b' cs' h';exact hs.inj b b' _ _ g g'
 ·intro b cs h hk;obtain ⟨x,hx,-⟩:=yK h;obtain ⟨y,hy⟩:=qh b x hx;have h1:=hs.sep b _ (yi hy) hk;cases h2:ρn (μ b).1 with
  |none=>rfl
  |some o =>
   rcases hnew _ _ h2 h1 with h3 | ⟨b',y',hy',hk',he,_,hn',_⟩
   ·have:=blkLt b y hy hk;omega
   ·by_cases hbb:b=b'
    ·subst hbb;simp only at hx;rw[hn'] at hx;cases hx
    ·exact absurd he.symm (hs.inj b b' _ _ (yi hy) (yi hy') hbb hk hk')
 ·intro b cs h hk hn;obtain ⟨_,g⟩:=liveB b cs h;exact hs.own b _ g hk hn
 ·intro k o h h0;cases h1:ρ k with
  |none =>
   rcases hnew k o h h1 with h3 | ⟨b',y',hy',hk',rfl,_,_,hnb⟩
   ·have:=hs.size;exact .inl (by omega)
   ·exact hs.own b' _ (yi hy') hk' hnb
  |some o'=>exact hs.new k o' h1 h0
 ·intro k hk h;rw[hframe k (by have:=hs.size;omega) ?_]
  ·exact hs.frame k hk h
  ·intro b hb hkb he;obtain ⟨y,hy⟩:=Option.isSome_iff_exists.1 (hB b hb);rcases Nat.lt_or_ge b n with hbn | hbn
   ·have:=hs.inc b hbn;rw[this] at hkb he;exact h b hbn hkb he
   ·rcases hs.own b _ (yi hy) hkb hbn with h' | ⟨c,hc,h0,he'⟩
    ·omega
    ·exact h c hc h0 (he.trans he')
end
theorem Ot {P:Program} {x:Bx} {K:List AV->Prop} (h:QQ P x K):∃l,K l:=by
 unfold QQ at h;split at h
 ·obtain ⟨es,h⟩:=h;exact⟨_,h⟩
 ·split at h
  ·split at h
   ·exact⟨_,h⟩
   ·exact⟨_,h⟩
   ·exact⟨_,h⟩
   ·exact vC _ _ _ h
  ·obtain ⟨l,h⟩:=vC _ _ _ h;exact⟨_,h⟩
theorem Th {k:Nat->Bool} {P:Program}:∀ {bs:List Bx} {i:Nat} {K:List (List AV)->Prop},we k P i bs K->∃l,K l:=by
 intro bs;induction bs with
 |nil=>intro i K h;exact⟨_,h⟩
 |cons x r ih =>
  intro i K h;unfold we at h;split at h
  ·obtain ⟨l,h⟩:=ih h;exact⟨_,h⟩
  ·obtain ⟨cs,h⟩:=Ot h;obtain ⟨l,h⟩:=ih h;exact⟨_,h⟩
theorem Ti {ro:Bool} {k:Nat->Bool} {P:Program} {bs:List Bx} {K:List (List AV)->Prop} (h:wg ro k P bs K):∃l,K l:=by
 unfold wg at h;split at h
 ·exact⟨_,h⟩
 ·exact Th h
theorem Yj {B:List Nat} {O:List (List AV)} {kill:List Nat} {bx:List (Option Bx)} {b:Nat} {x:Bx} (h:(yC B O kill bx).getD b none=some x) :
  kill.contains b=false/\((idx b B=none/\bx.getD b none=some x)\/∃i y,idx b B=some i/\bx.getD b none=some y/\x={ y with cs:=AV.zh (B[·]?) (O.getD i []) }):=by
 unfold yC at h;simp only[List.getD,xe] at h;cases hg:bx[b]? with
 |none=>simp[hg] at h
 |some y =>
  simp only[hg,Option.map_some,Option.getD_some] at h;split at h
  ·cases h
  ·rename_i hk;refine⟨by simpa using hk,?_⟩;split at h
   ·rename_i i hi;obtain ⟨z,hz,rfl⟩:=Option.map_eq_some_iff.1 h;exact .inr ⟨i,z,hi,by simp[List.getD,hg,hz],rfl⟩
   ·rename_i hi;exact .inl ⟨hi,by simp[List.getD,hg,h]⟩
theorem Tk {B:List Nat} {O:List (List AV)} {kill:List Nat} {bx:List (Option Bx)} {b:Nat} (h:b∈kill):(yC B O kill bx).getD b none=none:=by
 cases hg:(yC B O kill bx).getD b none with
 |none=>rfl
 |some x =>
  have:=(Yj hg).1;simp[h] at this
theorem M9 {t:TypeId} {m:Nat} {es:List AV} (h:AV.zp [.iface t (.slc m es)]=true):es=[]:=by
 cases m<;>cases es<;>simp_all [AV.zp,AV.plain]
section
variable {frs:Ways} {il:vZ} {ds:List Deferred} {n:Nat} {μ0:Lay} {ρ0:RO} {w0:World} {ρ:RO} {μ:Lay} {σ:St} {a:Act} {w:World}
open Classical in
theorem Oc {P:Program} {f:FuncId} {args:List AV} {vs:Array Value} {d:Option Nat} {K:St->Prop} (hs:Sat ds n μ0 ρ0 w0 ρ μ σ a w) (hargs:Rvs ρ (some μ) args vs) (h:jG P (yj P frs il) n f args d σ K) :
  (callFunc f vs).run P w=.ok (.enter f vs) w/\Calls P f vs w (fun e w'=>∃cv,e=.returned cv/\∃ρ' σ',Sat ds n μ0 ρ0 w0 ρ' μ σ' (a.put d cv) w'/\K σ'):=by
 unfold jG at h;dsimp only at h;generalize hBd:wo (fun b=>(σ.box b).map (AV.ze σ.zg)) 30 (AV.zd (AV.ze σ.zg args)) []=B at h;split at h
 case h_2=>exact h.elim
 rename_i bs fn hbs hfn;generalize hasl:AV.za args++AV.za (bs.flatMap (·.cs))=asl at h;split at h
 ·exact h.elim
 rename_i hcond;simp only[Bool.or_eq_true,List.any_eq_true,Bool.not_eq_true',decide_eq_false_iff_not,not_or,not_exists,not_and,Bool.not_eq_true,Decidable.not_not,List.mem_map,List.contains_eq_mem,decide_eq_true_eq] at hcond;obtain ⟨⟨⟨harr,hdisj⟩,hnd⟩,hkm⟩:=hcond;have hsm:∀x∈bs,ql (AV.ze σ.zg x.cs)=ql x.cs:=fun x hx=>TV (by simpa using hkm x hx) fun m es he=>by rw[he];rfl
 have hdisj:∀b,b∈asl.map (·.1)->b∉B:=by
  intro b hb hB;obtain ⟨t,ht,rfl⟩:=List.mem_map.1 hb;exact hdisj t.1 ⟨t,ht,rfl⟩ hB
 obtain ⟨hok,h⟩:=xO h;obtain ⟨v,h⟩:=Oq h;obtain ⟨O',hspec,hK⟩:=Ti h;obtain ⟨henter,hspec⟩:=hspec;refine⟨henter vs w,?_⟩;obtain ⟨hbl,hbi⟩:=u6 hbs;have hBlive:∀b∈B,∃(i:Nat) (x:Bx),B[i]? = some b/\bs[i]? = some x/\σ.bx.getD b none=some x:=by
  intro b hb;obtain ⟨i,hi,rfl⟩:=List.getElem_of_mem hb;obtain ⟨x,h1,h2⟩:=hbi i B[i] (by simp[hi]);exact⟨i,x,by simp[hi],h1,h2⟩
 have hBarr:∀b x,b∈B->σ.bx.getD b none=some x->x.arr=false:=by
  intro b x hb hx;obtain ⟨i,y,_,h1,h2⟩:=hBlive b hb;rw[hx] at h2;cases h2;exact harr x (List.mem_of_getElem? h1)
 let X:Nat->Prop:=fun k=>∃b x,b∈asl.map (·.1)/\σ.bx.getD b none=some x/\(μ b).2≠0/\(μ b).1=k
 let ρc:RO:=fun k=>if X k then w.heap[k]? else ρ k
 have hXn:∀k,X k->ρ k=none:=by
  rintro k ⟨b,x,_,hx,hk,rfl⟩;exact hs.sep b _ (yi hx) hk
 have hlec:ρ.le ρc:=by
  intro k o hk;show (if X k then _ else ρ k)=_;rw[if_neg (fun hX=>by rw[hXn k hX] at hk;cases hk)];exact hk
 have hroc:∀k o,ρc k=some o->w.heap[k]? = some o:=by
  intro k o hk;simp only[ρc] at hk;split at hk
  ·exact hk
  ·exact hs.ro k o hk
 have hblk:∀b x,b∈asl.map (·.1)->σ.bx.getD b none=some x->(μ b).2≠0->ρc (μ b).1=w.heap[(μ b).1]?:=by
  intro b x hb hx hk;show (if X (μ b).1 then _ else _)=_;rw[if_pos ⟨b,x,hb,hx,hk,rfl⟩]
 have hsnap:∀u cu,Rv ρ (some μ) u cu->(∀t∈u.zf,t∈asl)->Rv ρc (some μ) (u.snap σ.zg) cu:=fun u cu hu ht =>
  hs.snap hlec hblk hu (fun t h=>⟨List.mem_map_of_mem (ht t h),hok t (ht t h)⟩)
 let μc:Lay:=fun i=>match B[i]? with | some b=>μ b | none=>(0,0)
 have hμc:∀(i b:Nat),B[i]? = some b->μc i=μ b:=fun i b hi=>by simp only[μc,hi]
 have hren:∀(b i:Nat),idx b B=some i->μc i=μ b:=fun b i hi=>hμc i b (xc hi)
 have hO:∀(i:Nat),((bs.map fun x=>AV.zb (AV.zh (idx · B) (AV.ze σ.zg x.cs)))[i]?)=(bs[i]?).map fun x=>AV.zb (AV.zh (idx · B) (AV.ze σ.zg x.cs)):=fun i=>by simp
 have hOl:(bs.map fun x=>AV.zb (AV.zh (idx · B) (AV.ze σ.zg x.cs))).length=B.length:=by simp[hbl]
 have hget:∀(i:Nat),i<B.length->∃(b:Nat) (x:Bx),B[i]? = some b/\bs[i]? = some x/\σ.bx.getD b none=some x/\b∈B:=by
  intro i hi;obtain ⟨x,h1,h2⟩:=hbi i B[i] (by simp[hi]);exact⟨B[i],x,by simp[hi],h1,h2,List.getElem_mem hi⟩
 have hdist:∀(i j b b':Nat),i≠j->B[i]? = some b->B[j]? = some b'->b≠b':=by
  rintro i j b b' hij hi hj rfl;obtain ⟨h1,h2⟩:=List.getElem?_eq_some_iff.1 hi;obtain ⟨h3,h4⟩:=List.getElem?_eq_some_iff.1 hj;rcases Nat.lt_or_gt_of_ne hij with hl | hl
  ·exact List.pairwise_iff_getElem.1 hnd i j h1 h3 hl (by rw[h2,h4])
  ·exact List.pairwise_iff_getElem.1 hnd j i h3 h1 hl (by rw[h2,h4])
 have hcells:∀b x,b∈B->σ.bx.getD b none=some x->∀j t,t∈(x.cs.getD j .undef).zf->t∈asl:=by
  intro b x hb hx j t ht;obtain ⟨i,y,_,h1,h2⟩:=hBlive b hb;rw[hx] at h2;cases h2;rw[<- hasl];refine List.mem_append_right _ ?_;obtain ⟨l1,l2,rfl⟩:=List.append_of_mem (List.mem_of_getElem? h1);have:t∈AV.za x.cs:=qf ht;have key:∀(p q:List AV),AV.za (p++q)=AV.za p++AV.za q:=by
   intro p q;induction p with
   |nil=>rfl
   |cons c r ih=>simp[AV.za,ih]
  simp only[List.flatMap_append,List.flatMap_cons,key,List.mem_append];exact .inr (.inl this)
 have hcall:=hspec ρc μc w vs ((hs.gl.mono hs.le).mono hlec) hroc ?_ ?_ ?_ ?_;rotate_left
 ·-- the boxes
  intro i cs hi;rw[hO i] at hi;obtain ⟨x,hx,rfl⟩:=Option.map_eq_some_iff.1 hi;have hil:i<B.length:=by
   have:=(List.getElem?_eq_some_iff.1 hx).1;omega
  obtain ⟨b,y,h1,h2,h3,h4⟩:=hget i hil;rw[hx] at h2;cases h2;have hm:=hμc i b h1;obtain ⟨g1,g2⟩:=hs.box b x h3;refine⟨by rw[hm,yu,yQ,jd];exact g1,?_⟩;rw[hm];rcases g2 with g2 | ⟨o,g3,g5⟩
  ·exact .inl g2
  ·refine .inr ⟨o,g3,g5.imp (by rw[vk,vl];exact hsm x (List.mem_of_getElem? hx)) (fun j cv hj=>?_) (hl:=by rw[qD,harr x (List.mem_of_getElem? hx)];rfl)⟩;rw[yP,qt,jX];exact((hsnap _ _ hj.zm (hcells b x h4 h3 j)).zj hren).norm
 ·intro i j hi hj hij hk hk';rw[hOl] at hi hj;obtain ⟨b,y,h1,_,h3,_⟩:=hget i hi;obtain ⟨b',y',h1',_,h3',_⟩:=hget j hj;rw[hμc i b h1,hμc j b' h1'] at *;exact hs.inj b b' _ _ (yi h3) (yi h3') (hdist i j b b' hij h1 h1') hk hk'
 ·intro i hi hk;rw[hOl] at hi;obtain ⟨b,y,h1,_,h3,h4⟩:=hget i hi;rw[hμc i b h1] at *;show (if X (μ b).1 then _ else _)=_;rw[if_neg]
  ·exact hs.sep b _ (yi h3) hk
  ·rintro ⟨b',x',hb',hx',hk',he⟩;exact hs.inj b' b _ _ (yi hx') (yi h3) (by rintro rfl;exact hdisj b' hb' h4) hk' hk he
 ·refine⟨by rw[yu,yQ,jd];exact hargs.1,fun j=>?_⟩;rw[yP,qt,jX];exact((hsnap _ _ (hargs.2 j) (fun t ht=>by rw[<- hasl];exact List.mem_append_left _ (qf ht))).zj hren).norm
 refine hcall.mono fun e w' hg=>?_
 obtain ⟨⟨cv,ρ'',rfl,gle,gro,gnew,gv,gbox⟩,glen,gframe,gsize,gos,gtape,gout⟩:=hg;refine⟨cv,rfl,?_⟩;rw[hOl] at glen gframe;have hframe:∀k,k<w.heap.size->(∀b,b∈B->(μ b).2≠0->k≠(μ b).1)->w'.heap[k]? = w.heap[k]?:=by
  intro k hk hb;refine gframe k hk fun i hi hki=>?_
  obtain ⟨b,y,h1,_,_,h4⟩:=hget i hi;rw[hμc i b h1] at *;exact hb b h4 hki
 have hBsome:∀b∈B,(σ.bx.getD b none).isSome=true:=by
  intro b hb;obtain ⟨_,x,_,_,h⟩:=hBlive b hb;rw[h];rfl
 have hback:∀(i b:Nat),B[i]? = some b->μ b=μc i:=fun i b hi=>(hμc i b hi).symm
 have hbx:∀(kill:List Nat) (ρn:RO),(∀(i:Nat) (cs:List AV),O'[i]? = some cs->∀j c,Rv ρ'' (some μc) (cs.getD j .undef) c->Rv ρn (some μc) (cs.getD j .undef) c)->(∀(i:Nat) (cs:List AV),O'[i]? = some cs->∀es,ql cs=some es->es≠[]->∀v c,Rv ρ'' none v c->Rv ρn none v c) ->
   ∀b x,(yC B O' kill σ.bx).getD b none=some x->(b∉B/\σ.bx.getD b none=some x)\/(b∈B/\(σ.bx.getD b none).isSome=true/\x.arr=false/\vQ ρn (some μ) μ w' b x.cs):=by
  intro kill ρn hconv hmap b x hx;obtain ⟨_,hx⟩:=Yj hx;rcases hx with ⟨h1,h2⟩ | ⟨i,y,h1,h2,rfl⟩
  ·exact .inl ⟨Q7 h1,h2⟩
  ·have hBi:=xc h1;have hbB:b∈B:=List.mem_of_getElem? hBi;have hil:i<O'.length:=by have:=(List.getElem?_eq_some_iff.1 hBi).1;omega
   have hOi:O'[i]? = some (O'.getD i []):=by simp[List.getD,hil]
   refine .inr ⟨hbB,hBsome b hbB,hBarr b y hbB h2,?_⟩;obtain ⟨g1,g2⟩:=gbox i _ hOi;have hm:=hμc i b hBi;rw[hm] at g1 g2;refine⟨by simpa[yQ] using g1,?_⟩;rcases g2 with g2 | ⟨o,g3,g5⟩
   ·exact .inl g2
   ·refine .inr ⟨o,g3,g5.imp (vl _ _) (fun j cv hj=>?_) (hr:=hmap i _ hOi)⟩;show Rv ρn (some μ) ((AV.zh (B[·]?) (O'.getD i [])).getD j .undef) _;rw[qt];exact(hconv i _ hOi j _ hj).zj hback
 split at hK
 ·rename_i hpl;simp only[Bool.and_eq_true,List.all_eq_true] at hpl;obtain ⟨hpv,hpO⟩:=hpl;let ρn:RO:=fun k=>if X k then none else ρ'' k
  have hconv:∀(i:Nat) (cs:List AV),O'[i]? = some cs->∀j c,Rv ρ'' (some μc) (cs.getD j .undef) c->Rv ρn (some μc) (cs.getD j .undef) c:=by
   intro i cs hi j c hc;rcases Nat.lt_or_ge j cs.length with hj | hj
   ·exact hc.zE (uK (hpO cs (List.mem_of_getElem? hi)) j hj)
   ·rw[yH hj];exact .undef ..
  have hsat:=hs.called (bx':=yC B O' [] σ.bx) (ρn:=ρn) (w':=w') (hbx [] ρn hconv (fun i cs hi es hes hne=>by
   exfalso;obtain ⟨m,rfl⟩:=XU hes;exact hne (M9 (hpO _ (List.mem_of_getElem? hi))))) ?_ ?_ ?_ hframe gsize gos gtape gout hBsome
  ·exact⟨ρn,_,hsat.put ((gv.zE hpv).zj hback),hK⟩
  ·intro k o hk;show (if X k then none else ρ'' k)=_;rw[if_neg (fun hX=>by rw[hXn k hX] at hk;cases hk)];exact gle k o (hlec k o hk)
  ·intro k o hk;simp only[ρn] at hk;split at hk
   ·cases hk
   ·exact gro k o hk
  ·intro k o hk h0;simp only[ρn] at hk;split at hk
   ·cases hk
   ·rename_i hX;refine .inl (gnew k o hk ?_);show (if X k then _ else ρ k)=_;rw[if_neg hX];exact h0
 ·split at hK
  ·rename_i hall;have hsat:=hs.called (bx':=yC B O' (asl.map (·.1)) σ.bx) (ρn:=ρ'') (w':=w') (hbx _ ρ'' (fun _ _ _ _ _ hc=>hc) (fun _ _ _ _ _ _ _ _ hc=>hc)) (hlec.trans gle) gro ?_ hframe gsize gos gtape gout hBsome
   ·exact⟨ρ'',_,hsat.put (gv.zj hback),hK⟩
   ·intro k o hk h0;by_cases hX:X k
    ·obtain ⟨b,x,hb,hx,hkb,he⟩:=hX;refine .inr ⟨b,x,hx,hkb,he,hdisj b hb,Tk hb,?_⟩;have:=List.all_eq_true.1 hall b hb;simpa using this
    ·refine .inl (gnew k o hk ?_);show (if X k then _ else ρ k)=_;rw[if_neg hX];exact h0
  ·exact hK.elim
end
end Go.Proofs.YtkojpnkknehhmaaGreatDoor

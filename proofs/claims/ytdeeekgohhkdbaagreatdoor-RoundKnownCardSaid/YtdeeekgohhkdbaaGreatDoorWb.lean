/- A store into memory that nobody writes. -/
import Derived.Test.YtdeeekgohhkdbaaGreatDoorUh
namespace Go.Proofs.YtdeeekgohhkdbaaGreatDoor
open Go.RowKit
theorem jD {m:Bool}:∀ {l:List AV},AV.zw m l=true->∀j,(l.getD j .undef).zy m=true:=by
 intro l;induction l with
 |nil=>intro _ j;rfl
 |cons x r ih =>
  intro h j;simp only[AV.zw,Bool.and_eq_true] at h;cases j with
  |zero=>exact h.1
  |succ j=>exact ih h.2 j
theorem SD {m:Bool} {x:AV} (h:x.zy m=true) (j:Nat):(x.cells.getD j .undef).zy m=true:=by
 cases x with
 |agg cs=>exact jD h j
 |_=>cases j<;>first | exact h | rfl
theorem ME {ρ:RO} {E:Option Lay} {v:AV} {b0:Bool} (h:Rv ρ E v (.bool b0)) (hn:v.zy true=true):v=.undef:=by
 cases h<;>first | rfl | cases hn
theorem Rv.zT {ρ ρ':RO} {B p:Nat} {b0:Bool} {u:Value} (hB:ρ.cell B p=some (.bool b0)) (hu:ρ'.cell B p=some u) (hne:∀b off v,ρ.cell b off=some v->¬(b=B/\off=p)->ρ'.cell b off=some v)
  {E:Option Lay} {v:AV} {cv:Value} (hv:Rv ρ E v cv):∀m:Bool,v.zy m=true->Rv ρ' E v cv:=by
 induction hv with
 |undef E v=>exact fun _ _=>.undef E v
 |tt E=>exact fun _ _=>.tt E
 |ff E=>exact fun _ _=>.ff E
 |bool E b=>exact fun _ _=>.bool E b
 |lit E k n=>exact fun _ _=>.lit E k n
 |int E k n=>exact fun _ _=>.int E k n
 |str E s=>exact fun _ _=>.str E s
 |nilp E=>exact fun _ _=>.nilp E
 |eptr E cs b o off c hc h ih =>
  intro m hm;have hm:AV.zw true cs=true:=hm;refine .eptr E cs b o off (fun j=>if b=B/\o+j=p/\j<cs.length then u else c j) (fun j hj=>?_) (fun j=>?_)
  ·by_cases e:b=B/\o+j=p
   ·simp only[if_pos (⟨e.1,e.2,hj⟩:b=B/\o+j=p/\j<cs.length)];rw[e.1,e.2];exact hu
   ·simp only[if_neg (fun q:b=B/\o+j=p/\j<cs.length=>e ⟨q.1,q.2.1⟩)];exact hne _ _ _ (hc j hj) e
  ·by_cases e:b=B/\o+j=p/\j<cs.length
   ·simp only[if_pos e];have h1:=hc j e.2.2;rw[e.1,e.2.1,hB] at h1;have h2:=h j;rw[<- Option.some.inj h1] at h2;rw[ME h2 (jD hm j)];exact .undef ..
   ·simp only[if_neg e];exact ih j true (jD hm j)
 |ref E b off=>exact fun _ _=>.ref E b off
 |nilslc E m=>exact fun _ _=>.nilslc E m
 |eslc E m a hm=>exact fun _ _=>.eslc E m a hm
 |slc E m es b o cap k c hm hcap h2 hk hc h ih =>
  intro m' hm';have hm':AV.zw true es=true:=hm';refine .slc E m es b o cap k (fun i j=>if b=B/\o+i*k+j=p/\i<es.length/\j<k then u else c i j) hm hcap h2 hk (fun i hi j hj=>?_) (fun i j=>?_)
  ·by_cases e:b=B/\o+i*k+j=p
   ·simp only[if_pos (⟨e.1,e.2,hi,hj⟩:b=B/\o+i*k+j=p/\i<es.length/\j<k)];rw[e.1,e.2];exact hu
   ·simp only[if_neg (fun q:b=B/\o+i*k+j=p/\i<es.length/\j<k=>e ⟨q.1,q.2.1⟩)];exact hne _ _ _ (hc i hi j hj) e
  ·have hn:=SD (jD hm' i) j;by_cases e:b=B/\o+i*k+j=p/\i<es.length/\j<k
   ·simp only[if_pos e];have h1:=hc i e.2.2.1 j e.2.2.2;rw[e.1,e.2.1,hB] at h1;have h3:=h i j;rw[<- Option.some.inj h1] at h3;rw[ME h3 hn];exact .undef ..
   ·simp only[if_neg e];exact ih i j true hn
 |aslc E b off len esz ag cap hcap hr=>exact fun _ _=>.aslc E b off len esz ag cap hcap hr
 |aslc0 E b esz ag a h0=>exact fun _ _=>.aslc0 E b esz ag a h0
 |fn E f first caps vf vc hf hc _ _ ih1 ih2 =>
  intro m hm;simp only[AV.zy,Bool.and_eq_true] at hm;exact .fn E f first caps vf vc hf hc (fun j=>ih1 j m (jD hm.1 j)) (fun j=>ih2 j m (jD hm.2 j))
 |nilfn E=>exact fun _ _=>.nilfn E
 |iface E t v v' _ ih=>exact fun m hm=>.iface E t v v' (ih m hm)
 |nilif E=>exact fun _ _=>.nilif E
 |agg E cs vs hl _ ih=>exact fun m hm=>.agg E cs vs hl (fun j=>ih j m (jD hm j))
 |tup E cs vs hl _ ih=>exact fun m hm=>.tup E cs vs hl (fun j=>ih j m (jD hm j))
 |map E b=>exact fun _ _=>.map E b
 |nilmap E=>exact fun _ _=>.nilmap E
 |yld E l=>exact fun _ _=>.yld E l
theorem TD {w:World} {B p:Nat} {u:Value} {c:Array Value} {e:TypeId} {fr:Nat × Nat} (h:w.heap[B]? = some (.cells c e fr)):(w.setCell ⟨B,p,none⟩ u).heap[B]? = some (.cells (c.setIfInBounds p u) e fr):=by
 unfold World.setCell;simp only[Array.getElem?_modify,if_true,h];rfl
theorem kE {w:World} {B p k:Nat} {u:Value} (h:k≠B):(w.setCell ⟨B,p,none⟩ u).heap[k]? = w.heap[k]?:=by
 unfold World.setCell;simp only[Array.getElem?_modify,if_neg (Ne.symm h)]
section
variable {ds:List Deferred} {n:Nat} {E0:Lay} {ρ0:RO} {w0:World} {ρ:RO} {E:Lay} {Z:St} {a:Act} {w:World}
theorem Sat.zT (hs:Sat ds n E0 ρ0 w0 ρ E Z a w) {B p:Nat} {b0:Bool} {u:Value} (hB:ρ.cell B p=some (.bool b0)) (h0:ρ0 B=none) (hsl:∀t,(Z.sl.getD t .undef).zy false=true)
  (hbx:∀b x,Z.bx.getD b none=some x->x.mp=none/\∀j,(x.cs.getD j .undef).zy false=true) :
  ∃ρ',Sat ds n E0 ρ0 w0 ρ' E Z a (w.setCell ⟨B,p,none⟩ u)/\ρ'.cell B p=some u/\∀b off v,ρ.cell b off=some v->¬(b=B/\off=p)->ρ'.cell b off=some v:=by
 obtain ⟨c,e,fr,hρ,hfr,hcp⟩:∃c e fr,ρ B=some (.cells c e fr)/\¬(fr.1<=p/\p<fr.2)/\c[p]? = some (.bool b0):=by
  unfold RO.cell at hB;split at hB
  ·rename_i c e fr hh;split at hB
   ·cases hB
   ·rename_i hn;exact⟨c,e,fr,hh,hn,hB⟩
  ·cases hB
 have hh:=hs.ro _ _ hρ;let ρ':RO:=fun k=>if k=B then some (.cells (c.setIfInBounds p u) e fr) else ρ k
 have hp:p<c.size:=(Array.getElem?_eq_some_iff.1 hcp).1;have hu:ρ'.cell B p=some u:=by
  simp only[RO.cell,ρ',if_true,if_neg hfr];rw[Array.getElem?_setIfInBounds_self_of_lt hp]
 have hne:∀b off v,ρ.cell b off=some v->¬(b=B/\off=p)->ρ'.cell b off=some v:=by
  intro b off v hc hn;by_cases hb:b=B
  ·subst hb;have ho:off≠p:=fun h=>hn ⟨rfl,h⟩
   simp only[RO.cell,hρ] at hc;simp only[RO.cell,ρ',if_true];split at hc
   ·cases hc
   ·rename_i hf;rw[if_neg hf,Array.getElem?_setIfInBounds_ne (Ne.symm ho)];exact hc
  ·simp only[RO.cell,ρ',if_neg hb];exact hc
 have hown:=hs.new B _ hρ h0;have hblk:∀b x,Z.bx.getD b none=some x->(E b).2≠0->(E b).1≠B:=by
  intro b x hx hk he;have:=hs.sep b _ (yu hx) hk;rw[he,hρ] at this;cases this
 refine⟨ρ',{ hs with defs:=?_,sl:=fun t=>(hs.sl t).zT hB hu hne false (hsl t),box:=fun b x hx=>?_,sep:=fun b cs hb hk=>?_,ro:=fun k o hk=>?_,le:=fun k o hk=>?_,new:=fun k o hk hk0=>?_,frame:=fun k hk hn=>?_,size:=by rw[show (w.setCell ⟨B,p,none⟩ u).heap.size=w.heap.size by simp[World.setCell]];exact hs.size },hu,hne⟩
 ·obtain ⟨Ds,h1,h2,h3⟩:=hs.defs;refine⟨Ds,h1,h2,fun D hD=>⟨?_,(h3 D hD).2⟩⟩;have h4:=(h3 D hD).1;have:D≠B:=fun h=>by rw[h,hρ] at h4;cases h4
  simp only[ρ',if_neg this];exact h4
 ·obtain ⟨h1,h2⟩:=hs.box b x hx;refine⟨h1,?_⟩;by_cases hk:(E b).2=0
  ·exact .inl hk
  rcases h2 with h2 | ⟨o,h3,h4⟩
  ·exact .inl h2
  ·have hm:WH (lev E x) x.cs=none:=by rw[xD];exact(hbx b x hx).1
   exact .inr ⟨o,by rw[kE (hblk b x hx hk)];exact h3,h4.imp rfl (fun j cv hj=>hj.zT hB hu hne false ((hbx b x hx).2 j)) rfl (fun es he=>by rw[hm] at he;cases he)⟩
 ·obtain ⟨x,hx,-⟩:=yT hb;simp only[ρ',if_neg (hblk b x hx hk)];exact hs.sep b cs hb hk
 ·by_cases hkB:k=B
  ·subst hkB;simp only[ρ',if_true,Option.some.injEq] at hk;subst hk;exact TD hh
  ·simp only[ρ',if_neg hkB] at hk;rw[kE hkB];exact hs.ro k o hk
 ·have hkB:k≠B:=fun h=>by rw[h,h0] at hk;cases hk
  simp only[ρ',if_neg hkB];exact hs.le k o hk
 ·by_cases hkB:k=B
  ·subst hkB;exact hown
  ·simp only[ρ',if_neg hkB] at hk;exact hs.new k o hk hk0
 ·have hkB:k≠B:=by
   rintro rfl;rcases hown with h | ⟨c',h1,h2,h3⟩
   ·omega
   ·exact hn c' h1 h2 h3
  rw[kE hkB];exact hs.frame k hk hn
end
theorem JM {v:AV} (h:Gm v=false):v.zy false=true:=by
 cases v<;>first | rfl | cases h
theorem XM {K:Prop}:∀ {l:List AV},Uj l K->(∀j,(l.getD j .undef).zy false=true)/\K:=by
 intro l;induction l with
 |nil=>intro h;exact⟨fun j=>rfl,h⟩
 |cons v r ih =>
  intro h;unfold Uj at h;have key:v.zy false=true/\Uj r K:=by
   split at h
   ·exact h
   ·rename_i hn;exact⟨JM (by simpa using hn),h⟩
  obtain ⟨h1,h2⟩:=ih key.2;refine⟨fun j=>?_,h2⟩;cases j with
  |zero=>exact key.1
  |succ j=>exact h1 j
theorem OG {K:Prop}:∀ {l:List (Option Bx)},TN l K->(∀b x,l.getD b none=some x->∀j,(x.cs.getD j .undef).zy false=true)/\K:=by
 intro l;induction l with
 |nil=>intro h;exact⟨fun b x hx=>by simp at hx,h⟩
 |cons v r ih =>
  intro h;cases v with
  |none =>
   obtain ⟨h1,h2⟩:=ih h;refine⟨fun b x hx=>?_,h2⟩;cases b with
   |zero=>cases hx
   |succ b=>exact h1 b x hx
  |some y =>
   obtain ⟨g1,g2⟩:=XM h;obtain ⟨h1,h2⟩:=ih g2;refine⟨fun b x hx=>?_,h2⟩;cases b with
   |zero=>cases hx;exact g1
   |succ b=>exact h1 b x hx
abbrev QA:RO->Prop:=fun ρ=>∀b off x,ρ.cell b off≠some (.bool x)
theorem Xp {a:Act} {d t:Nat} {v:Value} (hd:d<a.tmps.size):(a.put (some d) v).eval (.tmp t)=if t=d then v else a.eval (.tmp t):=by
 show (a.tmps.setIfInBounds d v).getD t Go.undef=_;rw[jn];by_cases h:t=d
 ·rw[if_pos h,if_pos ⟨h,hd⟩]
 ·rw[if_neg h,if_neg fun q=>h q.1];rfl
section
variable {a:Act} {w:World}
theorem P5 {o:Oper} {x:Operand} {s:TypeId} {f:Nat} {fs:Array Field} {fd:Field} {B off:Nat} (ho:o.op=.fieldAddr s x f) (hs:Tryz.prog.underlying s=some (.struct fs)) (hf:fs[f]? = some fd) (hz:Tryz.prog.cellsOf fd.type≠0) (hu:(Tryz.prog.underlying fd.type).isSome=true)
  (hx:a.eval x=.pointer (some ⟨B,off,none⟩)):(execOp a.eval o).run Tryz.prog w=.ok (.value (.pointer (some ⟨B,off+fd.offset,none⟩))) w:=by
 have hn:(Tryz.prog.underlying fd.type).isNone=false:=by cases h:Tryz.prog.underlying fd.type<;>simp_all
 obtain ⟨cv,h1,h2⟩:=vv (P:=Tryz.prog) (e:=fun q=>match a.eval q with | .pointer (some ⟨b,f,none⟩)=>if b=B then .ref 0 f else .undef | _=>.undef) (c:=a.eval) (ρ:=fun _=>none) (E:=some fun _=>(B,0)) (fun q=>by
  dsimp only;split
  ·rename_i b f hq;split
   ·rename_i hb;rw[hq,hb];exact .ref _ 0 f
   ·exact .undef ..
  ·exact .undef ..) o (v:=.ref 0 (off+fd.offset)) (by
  rw[ho];simp only[jz,hs,hf,hx,hn,if_true,if_neg (fun h:Tryz.prog.cellsOf fd.type=0\/false=true=>h.elim hz (by simp))]) w
 rw[h1];cases h2;rfl
theorem JY {o:Oper} {x y:Operand} {t e:TypeId} {de:TypeDesc} {b oo n c i:Nat} (ho:o.op=.indexAddr t x y) (ht:Tryz.prog.underlying t=some (.slice e)) (he:Tryz.prog.underlying e=some de)
  (hx:a.eval x=.slice (some ⟨b,oo,none⟩) n c) (hy:a.eval y=.int .i64 i) (hi:i<n):(execOp a.eval o).run Tryz.prog w=.ok (.value (.pointer (some ⟨b,oo+i*Tryz.prog.cellsOf e,none⟩))) w:=by
 have h1:(0<=(i:Int)/\(i:Int)<(n:Int)):=⟨by omega,by omega⟩;have hr:(Instr.indexAt t (.slice (some ⟨b,oo,none⟩) n c) (.int .i64 i)).run Tryz.prog w=.ok (.pointer (some ⟨b,oo+i*Tryz.prog.cellsOf e,none⟩)) w:=by
  simp only[Instr.indexAt,asIntOf,Sem.run_bind,Sem.run_pure,Result.andThen_ok,run_underlying ht];rw[if_pos h1];simp only[Sem.run_bind,yF he,Result.andThen_ok,Sem.run_pure];rw[qt];rfl
 simp only[execOp,ho,hx,hy];exact yW hr
theorem JZ {o:Oper} {x y:Operand} {t:TypeId} {dt:TypeDesc} {b off:Nat} {v y0:Value} (ho:o.op=.store t x y) (ht:Tryz.prog.underlying t=some dt) (hsz:Tryz.prog.cellsOf t=1) (hx:a.eval x=.pointer (some ⟨b,off,none⟩)) (hc:w.cell? ⟨b,off,none⟩=some y0) (hf:w.frozen? ⟨b,off,none⟩=false)
  (hy:a.eval y=v) (h1:v.oneCell'=true):(execOp a.eval o).run Tryz.prog w=.ok .skip (w.setCell ⟨b,off,none⟩ v):=by
 subst hy;have hcs:=OU h1;have hr:(Instr.storeAt t (.pointer (some ⟨b,off,none⟩)) (a.eval y)).run Tryz.prog w=.ok () (w.setCell ⟨b,off,none⟩ (a.eval y)):=by
  simp only[Instr.storeAt,Instr.sureAddr,Sem.run_bind,Sem.run_pure,Result.andThen_ok,storeVar,yF ht,hsz];rw[hcs,if_neg (by simp)];have:=run_storeCells_cells (P:=Tryz.prog) b off [a.eval y] 0 w (fun j hj=>by
   have hj:j=0:=by simpa using hj
   subst hj;simp[hc]) (fun j hj=>by
   have hj:j=0:=by simpa using hj
   subst hj;simpa using hf) (fun v hv=>by rw[List.mem_singleton.1 hv];exact h1)
  exact this
 simp only[execOp,ho,hx];simp[hr]
end
def l17:List (Option Nat × Op):=[(some 195,.fieldAddr 31 (.tmp 1) 8),(some 196,.load 29 (.tmp 195)),(some 197,.indexAddr 29 (.tmp 196) (.const (.int .i64 0))),(some 198,.fieldAddr 55 (.tmp 197) 7),(none,.store 4 (.tmp 198) (.const (.bool true)))]
theorem o17:(kp 17 (qH Tryz.f15)).toList.map qz=wT l17:=by kernel_rfl
theorem Hy:kJ 17 (qH Tryz.f15)=[(.region 17 (kp 17 (qH Tryz.f15)) false,((v8 17 (qH Tryz.f15)).headD (.skip,.skip)).2)]:=by kernel_rfl
theorem DF:∃fs fd,Tryz.prog.underlying 31=some (.struct fs)/\fs[8]? = some fd/\fd.offset=12/\fd.type=29:=⟨_,_,Tryz.underlying31,rfl,rfl,rfl⟩
theorem DG:∃fs fd,Tryz.prog.underlying 55=some (.struct fs)/\fs[7]? = some fd/\fd.offset=7/\fd.type=4:=⟨_,_,Tryz.underlying55,rfl,rfl,rfl⟩
theorem Hm {ρ:RO} {E:Option Lay} {v:AV} {cv:Value} (hb:G2 v=true) (h:Rv ρ E v cv):∃b0,cv=.bool b0:=by
 cases h<;>first | exact⟨_,rfl⟩ | cases hb
theorem DK {r17:Array Oper} {rest:Code} (h17:r17.toList.map qz=wT l17):WL Tryz.prog QA ⟨1,0,[1,12,7],[],[195,196,197,198]⟩ (.region 17 r17 false) rest:=by
 intro ro ds n E0 ρ0 w0 ρ E Z act W K Q hR hs hv hgo;unfold UP at hv;split at hv
 ·exact hv.elim
 rename_i hall;simp only[Bool.not_eq_false,List.all_eq_true,decide_eq_true_eq] at hall;have sz:198<act.tmps.size:=by rw[<- hs.sz];exact hall 198 (by simp)
 rw[if_pos rfl] at hv;unfold Ol at hv;dsimp only at hv;split at hv
 case h_2=>exact hv.elim
 rename_i b h1;split at hv
 case h_2=>exact hv.elim
 rename_i x hx;split at hv
 ·exact hv.elim
 rename_i hc;simp only[Bool.or_eq_true,not_or,Bool.not_eq_true,Option.isSome_eq_false_iff,Option.isNone_iff_eq_none] at hc;obtain ⟨⟨⟨hxa,hm⟩,hm12⟩,hmaps⟩:=hc;split at hv
 case h_2=>exact hv.elim
 rename_i m es h12;obtain ⟨js,r,⟨rfl,hbl,hjs,hr⟩,hv⟩:=hv;obtain ⟨hsl,hv⟩:=XM hv;obtain ⟨hbxs,hv⟩:=OG hv;obtain ⟨hxs,hK⟩:=XM hv;have hbl':b<Z.bx.length:=wE hx;have hlev:lev E x=some E:=by unfold lev;rw[if_neg (by simp[hxa])]
 have p1:=hs.sl 1;rw[h1] at p1;have e1:act.eval (.tmp 1)=.pointer (some ⟨(E b).1,0,none⟩):=by
  show act.tmps.getD 1 Go.undef=_;generalize act.tmps.getD 1 Go.undef=u at p1;cases p1;rfl
 have hlen12:12<x.cs.length:=by
  rcases Nat.lt_or_ge 12 x.cs.length with h | h
  ·exact h
  ·rw[yO h] at h12;cases h12
 obtain ⟨hbl0,hblk⟩:=hs.box b x hx;rcases hblk with hz | ⟨o,ho,hobj⟩
 ·omega
 obtain ⟨c,e,rfl,hcsz,hcells⟩:=hobj.get (xf hm);have g12:=hcells 12;rw[hlev,h12] at g12;have hc12:c[12]? = some (c.getD 12 Go.undef):=by rw[Array.getD,dif_pos (by omega)];exact Array.getElem?_eq_getElem (by omega)
 generalize hsv:c.getD 12 Go.undef=sv at g12 hc12;generalize hes:AV.slc m (.agg js::r)=sl12 at g12;cases g12 with
 |slc _ m' es' B O cap k cc hmm hcap hm2 hk hcell hval =>
  cases hes;have hk0:js.length=k:=hk 0 (by simp);have hp7:7<js.length:=by
   rcases Nat.lt_or_ge 7 js.length with h | h
   ·exact h
   ·rw[yO h] at hbl;cases hbl
  have hB0:=hcell 0 (by simp) 7 (by omega);rw[Nat.zero_mul,Nat.add_zero] at hB0;have hv7:Rv ρ none (js.getD 7 .undef) (cc 0 7):=hval 0 7;obtain ⟨b0,hb0⟩:=Hm hbl hv7;rw[hb0] at hB0;have h0:ρ0 B=none:=by
   cases hh:ρ0 B with
   |none=>rfl
   |some o =>
    exfalso;have h2:=hs.le _ _ hh;refine hR B (O+7) b0 ?_;unfold RO.cell at hB0 ⊢;rw[h2] at hB0;rw[hh];exact hB0
  have hne:(E b).1≠B:=by
   intro he;have:=hs.sep b _ (yu hx) (by omega);unfold RO.cell at hB0;rw[<- he,this] at hB0;cases hB0
  obtain ⟨fs8,fd8,q1,q2,q3,q4⟩:=DF;obtain ⟨fs7,fd7,s1,s2,s3,s4⟩:=DG;have hBc:=kZ hs.ro hB0;have hBf:=NN hs.ro hB0;refine wpIn_seq (wI h17 ?_);refine je (k:=0) (m:=4) h17 rfl (fun o ho=>P5 ho q1 q2 (by rw[q4];decide +kernel) (by rw[q4];kernel_rfl) e1) ?_;rw[q3,Nat.zero_add];refine je (k:=1) (m:=3) h17 rfl (fun o' ho'=>NA ho' Tryz.underlying29 (by kernel_rfl) (ad:=⟨(E b).1,12,none⟩) (v:=.slice (some ⟨B,O,none⟩) (r.length+1) cap) (by rw[Xp (by omega),if_pos rfl]) (by rw[uz ho];exact hc12)) ?_;refine je (k:=2) (m:=2) h17 rfl (fun o' ho'=>JY ho' Tryz.underlying29 Tryz.underlying55 (i:=0) (n:=r.length+1) (c:=cap) (b:=B) (oo:=O) (by rw[Xp (by simp only[yq];omega),if_pos rfl]) rfl (by omega)) ?_;simp only[Nat.zero_mul,Nat.add_zero];refine je (k:=3) (m:=1) h17 rfl (fun o' ho'=>P5 ho' s1 s2 (by rw[s4];decide +kernel) (by rw[s4];kernel_rfl) (B:=B) (off:=O) (by rw[Xp (by simp only[yq];omega),if_pos rfl])) ?_;rw[s3];refine Gs (k:=4) (m:=0) h17 rfl (fun o' ho'=>JZ ho' Tryz.underlying4 (by decide +kernel) (b:=B) (off:=O+7) (v:=.bool true) (by rw[Xp (by simp only[yq];omega),if_pos rfl]) hBc hBf rfl rfl) (WB ?_);have hs1:Sat ds n E0 ρ0 w0 ρ E ⟨Z.sl,Z.bx.set b (some { x with cs:=x.cs.set 12 .undef })⟩ act W:=Sat.zA (c:=b) (x:=x) (off:=12) (v:=.undef) hs hx hm rfl fun _ _ _ _=>.undef ..
  obtain ⟨ρ',hs2,hu,hne'⟩:=hs1.zT (u:=.bool true) hB0 h0 hsl (fun b' y hy=>by
   have hy:(Z.bx.set b (some { x with cs:=x.cs.set 12 .undef })).getD b' none=some y:=hy;rw[qc] at hy;by_cases hbb:b'=b
   ·rw[if_pos ⟨hbb,hbl'⟩] at hy;cases hy;exact⟨JI hm12,hxs⟩
   ·rw[if_neg fun q=>hbb q.1] at hy;refine⟨?_,hbxs b' y (by rw[qc,if_neg fun q=>hbb q.1];exact hy)⟩;have hmem:some y∈Z.bx:=by
     have hlt:=wE hy;rw[List.getD_eq_getElem?_getD,List.getElem?_eq_getElem hlt] at hy;simp only[Option.getD_some] at hy;rw[<- hy];exact List.getElem_mem hlt
    have:=List.any_eq_false.1 hmaps _ hmem;simpa using this)
  have hs3:=Sat.zA (c:=b) (x:={ x with cs:=x.cs.set 12 .undef }) (off:=12) (v:=.slc 3 (.agg (js.set 7 (.bool true))::r)) hs2 (by rw[qc,if_pos ⟨rfl,hbl'⟩]) hm12 rfl (fun cv e' he' _=>by
   have hl':lev E { x with cs:=x.cs.set 12 .undef }=some E:=hlev;rw[hl'];rw[kE hne,ho] at he';cases he';rw[hsv];have hk7:7<k:=by omega
   refine .slc _ 3 _ B O cap k (fun i j=>if i=0/\j=7 then .bool true else cc i j) (by simp) (by simpa using hcap) (by simp) (fun i hi=>?_) (fun i hi j hj=>?_) (fun i j=>?_)
   ·cases i with
    |zero=>show (js.set 7 (AV.bool true)).length=k;rw[List.length_set];exact hk0
    |succ i=>exact hk (i+1) (by simpa using hi)
   ·by_cases hij:i=0/\j=7
    ·rw[if_pos hij,hij.1,hij.2,Nat.zero_mul,Nat.add_zero];exact hu
    ·rw[if_neg hij];refine hne' _ _ _ (hcell i (by simpa using hi) j hj) fun q=>hij ?_
     have q2:=q.2;rcases Nat.eq_zero_or_pos i with h | h
     ·subst h;rw[Nat.zero_mul] at q2;exact⟨rfl,by omega⟩
     ·have:=Nat.le_mul_of_pos_left k h;omega
   ·by_cases hij:i=0/\j=7
    ·rw[if_pos hij,hij.1,hij.2];have:((js.set 7 (AV.bool true)).getD 7 .undef)=.bool true:=by rw[y5,if_pos ⟨rfl,hp7⟩]
     show Rv ρ' none ((js.set 7 (AV.bool true)).getD 7 .undef) _;rw[this];exact .bool _ true
    ·rw[if_neg hij];cases i with
     |zero =>
      have hj:j≠7:=fun h=>hij ⟨rfl,h⟩
      show Rv ρ' none ((js.set 7 (AV.bool true)).getD j .undef) _;rw[y5,if_neg fun q=>hj q.1];exact(hval 0 j).zT hB0 hu hne' false (jD hjs j)
     |succ i=>exact(hval (i+1) j).zT hB0 hu hne' false (SD (jD hr i) j))
  have hset:(Z.bx.set b (some { x with cs:=x.cs.set 12 .undef })).set b (some { x with cs:=(x.cs.set 12 .undef).set 12 (.slc 3 (.agg (js.set 7 (.bool true))::r)) })=Z.bx.set b (some { x with cs:=x.cs.set 12 (.slc 3 (.agg (js.set 7 (.bool true))::r)) }):=by rw[List.set_set,List.set_set]
  have hs4:Sat ds n E0 ρ0 w0 ρ' E ⟨Z.sl,Z.bx.set b (some { x with cs:=x.cs.set 12 (.slc 3 (.agg (js.set 7 (.bool true))::r)) })⟩ act (W.setCell ⟨B,O+7,none⟩ (.bool true)):=by rw[<- hset];exact hs3
  refine hgo ρ' E _ _ _ (hs4.z8 (l:=(xA ⟨1,0,[1,12,7],[],[195,196,197,198]⟩ ⟨Z.sl,Z.bx⟩).sl) ?_ ?_ fun t=>?_) hK
  ·simp only[WR]
  ·rw[Sc];simp only[yq];exact hs.sz
  ·rw[Sb];by_cases ht:t∈([]++[195,196,197,198]:List Nat)
   ·rw[if_pos ht];exact .undef ..
   ·rw[if_neg ht];have h4:=hs4.sl t;have hev:∀d,d∈[195,196,197,198]->∀(a':Act) (v:Value),198<a'.tmps.size->(a'.put (some d) v).eval (.tmp t)=a'.eval (.tmp t):=fun d hd a' v ha=>by
     rw[Xp (Nat.lt_of_le_of_lt ((by decide:∀d∈[195,196,197,198],d<=198) d hd) ha),if_neg fun h=>ht (by rw[h];exact hd)]
    have hfin:∀(v1 v2 v3 v4:Value),((((act.put (some 195) v1).put (some 196) v2).put (some 197) v3).put (some 198) v4).tmps.getD t Go.undef=act.tmps.getD t Go.undef:=fun v1 v2 v3 v4=>by
     show (Act.eval _ (.tmp t))=act.eval (.tmp t);rw[hev 198 (by simp) _ _ (by simp only[yq];exact sz),hev 197 (by simp) _ _ (by simp only[yq];exact sz),hev 196 (by simp) _ _ (by simp only[yq];exact sz),hev 195 (by simp) _ _ sz]
    show Rv ρ' (some E) _ (Array.getD _ t Go.undef);rw[hfin];exact h4
 |_=>cases hes
end Go.Proofs.YtdeeekgohhkdbaaGreatDoor

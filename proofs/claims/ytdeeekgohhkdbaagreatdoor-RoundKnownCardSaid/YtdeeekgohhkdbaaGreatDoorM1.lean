/- Regions in which a map from Booleans is made that is known there alone. -/
import Derived.Test.YtdeeekgohhkdbaaGreatDoorN3
namespace Go.Proofs.YtdeeekgohhkdbaaGreatDoor
open Go.RowKit
def W9 (ρ:RO) (E:Lay):List (Bool × AV)->List MapEntry->Prop
 |[],[]=>True
 |m::M,e::zE=>(e.key=.bool m.1/\Rv ρ (some E) m.2 e.val)/\W9 ρ E M zE
 |_,_=>False
theorem W9.find {ρ:RO} {E:Lay} {b:Bool}:∀ {M:List (Bool × AV)} {zE:List MapEntry} (i:Nat),W9 ρ E M zE ->
  (∀v,M.lookup b=some v->∃j cv,Instr.findNow .bool (.bool b) zE i=some (some (j,cv))/\Rv ρ (some E) v cv)/\(M.lookup b=none->Instr.findNow .bool (.bool b) zE i=some none)
 |[],[],i,_=>⟨fun v h=>(by simp at h),fun _=>rfl⟩
 |[],_::_,_,h=>h.elim
 |_::_,[],_,h=>h.elim
 |(k,v)::M,e::zE,i,⟨⟨h1,h2⟩,h3⟩=>by
  obtain ⟨g1,g2⟩:=W9.find (b:=b) (i+1) h3;simp only[List.lookup,Instr.findNow,h1,Instr.sameNow];by_cases hk:b=k
  ·subst hk;simp only[beq_self_eq_true,Option.some.injEq,reduceCtorEq,false_implies,and_true];rintro v' rfl;exact⟨i,e.val,rfl,h2⟩
  ·have hb:(b == k)=false:=by simpa using hk
   simp only[hb];exact⟨g1,g2⟩
theorem W9.push {ρ:RO} {E:Lay} {b:Bool} {v:AV} {cv:Value} {n:Nat} (hv:Rv ρ (some E) v cv):∀ {M:List (Bool × AV)} {zE:List MapEntry},W9 ρ E M zE->W9 ρ E (M++[(b,v)]) (zE++[{ key:=.bool b,val:=cv,born:=n }])
 |[],[],_=>⟨⟨rfl,hv⟩,trivial⟩
 |[],_::_,h=>h.elim
 |_::_,[],h=>h.elim
 |_::_,_::_,⟨h1,h2⟩=>⟨h1,W9.push hv h2⟩
theorem Xg {P:Program} {t:TypeId} (h:uY P t=true):∃k e,P.underlying t=some (.map k e)/\P.underlying k=some .bool:=by
 unfold uY at h;split at h
 ·rename_i k e hu;split at h
  ·rename_i hk;exact⟨k,e,hu,hk⟩
  ·cases h
 ·cases h
section
variable {frs:Ways} {il:vH} {ds:List Deferred} {n:Nat} {E0:Lay} {ρ0:RO} {w0:World} {ρ:RO} {E:Lay} {Z:St} {a:Act} {w:World} {ro:Option Nat}
structure W8 (w0:World) (ρ:RO) (E:Lay) (M:uq) (Z:St) (a:Act) (w:World):Prop where
 ex:∃B es clock,w.heap[B]? = some (.map es clock)/\w0.heap.size<=B/\ρ B=none/\(∀b x,Z.bx.getD b none=some x->(E b).2≠0->(E b).1≠B)/\(∀m∈M.sl,a.tmps.getD m Go.undef=.map (some B))/\W9 ρ E M.es es.toList
theorem W8.put {M:uq} (h:W8 w0 ρ E M Z a w) {d:Option Nat} {v:AV} {cv:Value} (hd:SA M d=true):W8 w0 ρ E M (Z.put d v) (a.put d cv) w:=by
 obtain ⟨B,es,clock,h1,h2,h3,h4,h5,h6⟩:=h.ex;refine⟨B,es,clock,h1,h2,h3,?_,fun m hm=>?_,h6⟩
 ·cases d<;>exact h4
 ·cases d with
  |none=>exact h5 m hm
  |some d =>
   simp only[Act.put];rw[jn];split
   ·rename_i hc;exfalso;simp only[SA,Bool.not_eq_true',] at hd;rw[<- hc.1] at hd;have:M.sl.contains m=true:=by simpa using hm
    rw[this] at hd;cases hd
   ·exact h5 m hm
def Mid (w0:World) (ρ:RO) (E:Lay) (Z:St) (a:Act) (w:World):Option uq->Prop
 |none=>True
 |some M=>W8 w0 ρ E M Z a w
theorem LI {P:Program} {o:Oper} {M:uq} {K:uq->St->Prop} {next:Act->World->Prop} {Q:Exit->Act->World->Prop} (hs:Sat ds n E0 ρ0 w0 ρ E Z a w) (hM:W8 w0 ρ E M Z a w)
  (hn:∀M Z a w,Sat ds n E0 ρ0 w0 ρ E Z a w->W8 w0 ρ E M Z a w->K M Z->next a w) (h:LH P o M Z K):o.wpIn (Fr ro) 0 P a w next Q:=by
 have hpop:Wv P o M Z K->o.wpIn (Fr ro) 0 P a w next Q:=fun h=>by
  unfold Wv at h;split at h
  ·rename_i hc;split at h
   ·rename_i v hv;obtain ⟨cv,h1,h2⟩:=vv (fun x=>hs.eval x) o hv w;exact qm h1 (hn _ _ _ _ (hs.put h2) (hM.put hc) h)
   ·exact h.elim
  ·exact h.elim
 have hop:∀x,o.op=x->(execOp a.eval o)=(execOp a.eval { o with op:=x }):=fun x h=>by rw[<- h]
 unfold LH at h;split at h
 ·rename_i t x ho;split at h
  ·rename_i hc;obtain ⟨v,cv,h1,h2,h3⟩:=U1 hs (hs.eval x) h;exact qm (by rw[hop _ ho];exact yW h1) (hn _ _ _ _ (hs.put h2) (hM.put hc) h3)
  ·exact h.elim
 ·rename_i t x k v ho;split at h
  ·rename_i m b hb;split at h
   ·rename_i hc;simp only[Bool.and_eq_true,List.contains_iff_mem] at hc;obtain ⟨⟨⟨hm,hbm⟩,hnew⟩,hfree⟩:=hc;obtain ⟨kt,et,hu,hk⟩:=Xg hbm;obtain ⟨B,es,clock,h1,h2,h3,h4,h5,h6⟩:=hM.ex;have hkey:=wD hb (hs.eval k);have hfind:=(W9.find (b:=b) 0 h6).2 (by simpa using hnew);have hrun:(Instr.mapUpdate t (a.eval (.tmp m)) (a.eval k) (a.eval v)).run P w=.ok () (w.putObj B (.map (es.push { key:=.bool b,val:=a.eval v,born:=clock }) (clock+1))):=by
     rw[show a.eval (.tmp m)=.map (some B) from h5 m hm,hkey];simp[Instr.mapUpdate,run_underlying hu,MapKept.run_getObj_map h1,MapKept.run_checkKey hk (show MapKept.IsKey .bool (.bool b) from trivial),MapKept.run_findKey hk hfind,MapKept.run_setObj_map _ h1,Result.andThen];rfl
    refine QS (by rw[hop _ ho];simp[execOp,hrun]) (hn _ _ _ _ ((hs.turn (w':=w.putObj B (.map (es.push { key:=.bool b,val:=a.eval v,born:=clock }) (clock+1))) (T:=(·=B)) (by simp) (fun k _ hk=>World.putObj_heap_other hk) (fun k hk=>hk▸h3) (fun b x hx hk he=>h4 b x hx hk he) (fun k hk=>.inl (hk▸h2)) rfl rfl rfl).put (.tup _ _ #[] rfl (fun j=>.undef ..))) ?_ h);have hM':W8 w0 ρ E ⟨M.sl,M.es++[(b,ev Z v)]⟩ Z a (w.putObj B (.map (es.push { key:=.bool b,val:=a.eval v,born:=clock }) (clock+1))):=⟨B,_,_,World.putObj_heap_same (Array.getElem?_eq_some_iff.1 h1).1,h2,h3,h4,h5,by
     rw[Array.toList_push];exact h6.push (hs.eval v)⟩
    exact hM'.put hfree
   ·exact h.elim
  ·exact h.elim
 ·rename_i t x k ok ho;split at h
  ·rename_i m b hb;split at h
   ·rename_i hc;simp only[Bool.and_eq_true,List.contains_iff_mem,Bool.not_eq_true'] at hc;obtain ⟨⟨⟨hok,hm⟩,hbm⟩,hfree⟩:=hc;obtain ⟨kt,et,hu,hk⟩:=Xg hbm;obtain ⟨B,es,clock,h1,h2,h3,h4,h5,h6⟩:=hM.ex;have hkey:=wD hb (hs.eval k);have hget:U6 M o.dst b Z K:=by
     cases b with
     |true=>exact h.1 rfl
     |false=>exact h.2 rfl
    unfold U6 at hget;split at hget
    ·rename_i v hv;obtain ⟨j,cv,hfind,hcv⟩:=(W9.find (b:=b) 0 h6).1 v hv;have hrun:(Instr.lookup t (a.eval (.tmp m)) (a.eval k) ok).run P w=.ok cv w:=by
      rw[show a.eval (.tmp m)=.map (some B) from h5 m hm,hkey,hok];simp[Instr.lookup,run_underlying hu,MapKept.run_getObj_map h1,MapKept.run_checkKey hk (show MapKept.IsKey .bool (.bool b) from trivial),MapKept.run_findKey hk hfind,Result.andThen]
     exact qm (by rw[hop _ ho];exact yW hrun) (hn _ _ _ _ (hs.put hcv) (hM.put hfree) hget)
    ·exact hget.elim
   ·exact h.elim
  ·exact h.elim
 ·rename_i x ho;split at h
  ·rename_i m d hd;split at h
   ·rename_i hc;simp only[List.contains_iff_mem] at hc;split at h
    ·rename_i hl;have hl:=zt_ hl;obtain ⟨B,es,clock,h1,h2,h3,h4,h5,h6⟩:=hM.ex;refine qm (cv:=a.eval (.tmp m)) (w':=w) (by rw[hop _ ho];rfl) (hn _ _ _ _ (by rw[hd];exact hs.put (.undef ..)) ?_ h);rw[hd];refine⟨B,es,clock,h1,h2,h3,h4,fun m' hm'=>?_,h6⟩;simp only[Act.put];rw[jn];split
     ·exact h5 m hc
     ·rename_i hne;rcases List.mem_cons.1 hm' with rfl | hm'
      ·exact absurd ⟨rfl,by rw[<- hs.sz];exact hl⟩ hne
      ·exact h5 m' hm'
    ·exact h.elim
   ·exact hpop h
  ·exact hpop h
 ·exact hpop h
theorem OK {P:Program} (hil:jH P il) {ops:Array Oper} {K:St->Prop} {Q:Exit->Act->World->Prop} (hQ:∀a w,At ds n E0 ρ0 w0 K a w->Q .normal a w) :
  ∀(l:List Oper) (k:Nat) (M:Option uq) (ρ:RO) (E:Lay) (Z:St) (a:Act) (w:World),ops.toList.drop k=l->Sat ds n E0 ρ0 w0 ρ E Z a w->Mid w0 ρ E Z a w M->uv P (yv P frs il) n l M Z K->wpOpsIn (Fr ro) 0 P ops Q (List.range' k l.length) a w:=by
 intro l;induction l with
 |nil=>intro k M ρ E Z a w _ hs _ h;exact hQ a w ⟨ρ,E,Z,hs,h⟩
 |cons o r ih =>
  intro k M ρ E Z a w hd hs hM h;have ho:ops[k]? = some o:=by
   have:(ops.toList.drop k)[0]? = some o:=by rw[hd];rfl
   simpa using this
  have hr:ops.toList.drop (k+1)=r:=by
   have:(ops.toList.drop k).drop 1=r:=by rw[hd];rfl
   rw[List.drop_drop] at this;rw[<- this,Nat.add_comm]
  rw[List.length_cons,List.range'_succ];refine km ho ?_;unfold uv at h;split at h
  ·exact h.elim
  rename_i hg;have hg:o.guard=none:=by simpa using hg
  refine .inl ⟨by simp[Region.wanted,hg],?_⟩;split at h
  ·split at h
   ·rename_i t d hop hdst;split at h
    ·rename_i hc;rw[Bool.and_eq_true] at hc;have hl:=zt_ hc.2;have hrun:(execOp a.eval o).run P w=.ok (.value (.map (some w.heap.size))) (w.alloc (.map #[] 0)):=by
      obtain ⟨dst,op,type,pos,after,guard⟩:=o;simp only at hop;subst hop;rfl
     have hs':Sat ds n E0 ρ0 w0 ρ E Z a (w.alloc (.map #[] 0)):=hs.turn (T:=fun _=>False) (by simp) (fun k hk _=>(MapKept.heap_alloc w _).2 k hk) (fun k hk=>hk.elim) (fun b x hx hk he=>he.elim) (fun k hk=>hk.elim) rfl rfl rfl;refine qm hrun ?_;rw[hdst];refine ih (k+1) (some ⟨[d],[]⟩) ρ E _ _ _ hr (hs'.put (.undef ..)) ⟨w.heap.size,#[],0,(MapKept.heap_alloc w _).1,hs.size,?_,fun b x hx hk he=>?_,fun m hm=>?_,trivial⟩ h
     ·cases hρ:ρ w.heap.size with
      |none=>rfl
      |some o=>have:=(Array.getElem?_eq_some_iff.1 (hs.ro _ _ hρ)).1;omega
     ·rcases (hs.box b x hx).blk with h0 | ⟨o,h,_⟩
      ·exact absurd h0 hk
      ·have:=(Array.getElem?_eq_some_iff.1 h).1;omega
     ·obtain rfl:=List.mem_singleton.1 hm;simp only[Act.put];rw[jn,if_pos ⟨rfl,by rw[<- hs.sz];exact hl⟩]
    ·exact h.elim
   ·exact h.elim
   ·refine Oper.wpIn_mono ?_ (Y8 hil hs h);rintro a w ⟨ρ,E,Z,hs,h⟩;exact ih (k+1) none ρ E Z a w hr hs trivial h
  ·exact LI hs hM (fun M Z a w hs hM h=>ih (k+1) (some M) ρ E Z a w hr hs hM h) h
end
end Go.Proofs.YtdeeekgohhkdbaaGreatDoor

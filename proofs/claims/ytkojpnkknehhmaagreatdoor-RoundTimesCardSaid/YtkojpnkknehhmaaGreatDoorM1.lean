/- Regions in which a map from Booleans is made that is known there alone. -/
import Derived.Test.YtkojpnkknehhmaaGreatDoorN3
namespace Go.Proofs.YtkojpnkknehhmaaGreatDoor
open Go.RowKit
def WM (ρ:RO) (μ:Lay):List (Bool × AV)->List MapEntry->Prop
 |[],[]=>True
 |m::M,e::E=>(e.key=.bool m.1/\Rv ρ (some μ) m.2 e.val)/\WM ρ μ M E
 |_,_=>False
theorem WM.find {ρ:RO} {μ:Lay} {b:Bool}:∀ {M:List (Bool × AV)} {E:List MapEntry} (i:Nat),WM ρ μ M E ->
  (∀v,M.lookup b=some v->∃j cv,Instr.findNow .bool (.bool b) E i=some (some (j,cv))/\Rv ρ (some μ) v cv)/\(M.lookup b=none->Instr.findNow .bool (.bool b) E i=some none)
 |[],[],i,_=>⟨fun v h=>(by simp at h),fun _=>rfl⟩
 |[],_::_,_,h=>h.elim
 |_::_,[],_,h=>h.elim
 |(k,v)::M,e::E,i,⟨⟨h1,h2⟩,h3⟩=>by
  obtain ⟨g1,g2⟩:=WM.find (b:=b) (i+1) h3;simp only[List.lookup,Instr.findNow,h1,Instr.sameNow];by_cases hk:b=k
  ·subst hk;simp only[beq_self_eq_true,Option.some.injEq,reduceCtorEq,false_implies,and_true];rintro v' rfl;exact⟨i,e.val,rfl,h2⟩
  ·have hb:(b == k)=false:=by simpa using hk
   simp only[hb];exact⟨g1,g2⟩
theorem WM.push {ρ:RO} {μ:Lay} {b:Bool} {v:AV} {cv:Value} {n:Nat} (hv:Rv ρ (some μ) v cv):∀ {M:List (Bool × AV)} {E:List MapEntry},WM ρ μ M E->WM ρ μ (M++[(b,v)]) (E++[{ key:=.bool b,val:=cv,born:=n }])
 |[],[],_=>⟨⟨rfl,hv⟩,trivial⟩
 |[],_::_,h=>h.elim
 |_::_,[],h=>h.elim
 |_::_,_::_,⟨h1,h2⟩=>⟨h1,WM.push hv h2⟩
theorem Y0 {P:Program} {t:TypeId} (h:uP P t=true):∃k e,P.underlying t=some (.map k e)/\P.underlying k=some .bool:=by
 unfold uP at h;split at h
 ·rename_i k e hu;split at h
  ·rename_i hk;exact⟨k,e,hu,hk⟩
  ·cases h
 ·cases h
section
variable {frs:Ways} {il:vZ} {ds:List Deferred} {n:Nat} {μ0:Lay} {ρ0:RO} {w0:World} {ρ:RO} {μ:Lay} {σ:St} {a:Act} {w:World} {ro:Option Nat}
structure WL (w0:World) (ρ:RO) (μ:Lay) (M:v8) (σ:St) (a:Act) (w:World):Prop where
 ex:∃B es clock,w.heap[B]? = some (.map es clock)/\w0.heap.size<=B/\ρ B=none/\(∀b x,σ.bx.getD b none=some x->(μ b).2≠0->(μ b).1≠B)/\(∀m∈M.sl,a.tmps.getD m Go.undef=.map (some B))/\WM ρ μ M.es es.toList
theorem WL.put {M:v8} (h:WL w0 ρ μ M σ a w) {d:Option Nat} {v:AV} {cv:Value} (hd:TZ M d=true):WL w0 ρ μ M (σ.put d v) (a.put d cv) w:=by
 obtain ⟨B,es,clock,h1,h2,h3,h4,h5,h6⟩:=h.ex;refine⟨B,es,clock,h1,h2,h3,?_,fun m hm=>?_,h6⟩
 ·cases d<;>exact h4
 ·cases d with
  |none=>exact h5 m hm
  |some d =>
   simp only[Act.put];rw[jW];split
   ·rename_i hc;exfalso;simp only[TZ,Bool.not_eq_true',] at hd;rw[<- hc.1] at hd;have:M.sl.contains m=true:=by simpa using hm
    rw[this] at hd;cases hd
   ·exact h5 m hm
def Mid (w0:World) (ρ:RO) (μ:Lay) (σ:St) (a:Act) (w:World):Option v8->Prop
 |none=>True
 |some M=>WL w0 ρ μ M σ a w
theorem MW {P:Program} {o:Oper} {M:v8} {K:v8->St->Prop} {next:Act->World->Prop} {Q:Exit->Act->World->Prop} (hs:Sat ds n μ0 ρ0 w0 ρ μ σ a w) (hM:WL w0 ρ μ M σ a w)
  (hn:∀M σ a w,Sat ds n μ0 ρ0 w0 ρ μ σ a w->WL w0 ρ μ M σ a w->K M σ->next a w) (h:MV P o M σ K):o.wpIn (Fr ro) 0 P a w next Q:=by
 have hpop:Wl P o M σ K->o.wpIn (Fr ro) 0 P a w next Q:=fun h=>by
  unfold Wl at h;split at h
  ·rename_i hc;split at h
   ·rename_i v hv;obtain ⟨cv,h1,h2⟩:=Sa (fun x=>hs.eval x) o hv w;exact qu h1 (hn _ _ _ _ (hs.put h2) (hM.put hc) h)
   ·exact h.elim
  ·exact h.elim
 have hop:∀x,o.op=x->(execOp a.eval o)=(execOp a.eval { o with op:=x }):=fun x h=>by rw[<- h]
 unfold MV at h;split at h
 ·rename_i t x ho;split at h
  ·rename_i hc;obtain ⟨v,cv,h1,h2,h3⟩:=Uy hs (hs.eval x) h;exact qu (by rw[hop _ ho];exact qa h1) (hn _ _ _ _ (hs.put h2) (hM.put hc) h3)
  ·exact h.elim
 ·rename_i t x k v ho;split at h
  ·rename_i m b hb;split at h
   ·rename_i hc;simp only[Bool.and_eq_true,List.contains_iff_mem] at hc;obtain ⟨⟨⟨hm,hbm⟩,hnew⟩,hfree⟩:=hc;obtain ⟨kt,et,hu,hk⟩:=Y0 hbm;obtain ⟨B,es,clock,h1,h2,h3,h4,h5,h6⟩:=hM.ex;have hkey:=wj hb (hs.eval k);have hfind:=(WM.find (b:=b) 0 h6).2 (by simpa using hnew);have hrun:(Instr.mapUpdate t (a.eval (.tmp m)) (a.eval k) (a.eval v)).run P w=.ok () (w.putObj B (.map (es.push { key:=.bool b,val:=a.eval v,born:=clock }) (clock+1))):=by
     rw[show a.eval (.tmp m)=.map (some B) from h5 m hm,hkey];simp[Instr.mapUpdate,run_underlying hu,MapKept.run_getObj_map h1,MapKept.run_checkKey hk (show MapKept.IsKey .bool (.bool b) from trivial),MapKept.run_findKey hk hfind,MapKept.run_setObj_map _ h1,Result.andThen];rfl
    refine Nc (by rw[hop _ ho];simp[execOp,hrun]) (hn _ _ _ _ ((hs.turn (w':=w.putObj B (.map (es.push { key:=.bool b,val:=a.eval v,born:=clock }) (clock+1))) (T:=(·=B)) (by simp) (fun k _ hk=>World.putObj_heap_other hk) (fun k hk=>hk▸h3) (fun b x hx hk he=>h4 b x hx hk he) (fun k hk=>.inl (hk▸h2)) rfl rfl rfl).put (.tup _ _ #[] rfl (fun j=>.undef ..))) ?_ h);have hM':WL w0 ρ μ ⟨M.sl,M.es++[(b,ev σ v)]⟩ σ a (w.putObj B (.map (es.push { key:=.bool b,val:=a.eval v,born:=clock }) (clock+1))):=⟨B,_,_,World.putObj_heap_same (Array.getElem?_eq_some_iff.1 h1).1,h2,h3,h4,h5,by
     rw[Array.toList_push];exact h6.push (hs.eval v)⟩
    exact hM'.put hfree
   ·exact h.elim
  ·exact h.elim
 ·rename_i t x k ok ho;split at h
  ·rename_i m b hb;split at h
   ·rename_i hc;simp only[Bool.and_eq_true,List.contains_iff_mem,Bool.not_eq_true'] at hc;obtain ⟨⟨⟨hok,hm⟩,hbm⟩,hfree⟩:=hc;obtain ⟨kt,et,hu,hk⟩:=Y0 hbm;obtain ⟨B,es,clock,h1,h2,h3,h4,h5,h6⟩:=hM.ex;have hkey:=wj hb (hs.eval k);have hget:UG M o.dst b σ K:=by
     cases b with
     |true=>exact h.1 rfl
     |false=>exact h.2 rfl
    unfold UG at hget;split at hget
    ·rename_i v hv;obtain ⟨j,cv,hfind,hcv⟩:=(WM.find (b:=b) 0 h6).1 v hv;have hrun:(Instr.lookup t (a.eval (.tmp m)) (a.eval k) ok).run P w=.ok cv w:=by
      rw[show a.eval (.tmp m)=.map (some B) from h5 m hm,hkey,hok];simp[Instr.lookup,run_underlying hu,MapKept.run_getObj_map h1,MapKept.run_checkKey hk (show MapKept.IsKey .bool (.bool b) from trivial),MapKept.run_findKey hk hfind,Result.andThen]
     exact qu (by rw[hop _ ho];exact qa hrun) (hn _ _ _ _ (hs.put hcv) (hM.put hfree) hget)
    ·exact hget.elim
   ·exact h.elim
  ·exact h.elim
 ·rename_i x ho;split at h
  ·rename_i m d hd;split at h
   ·rename_i hc;simp only[List.contains_iff_mem] at hc;split at h
    ·rename_i hl;have hl:=zt_ hl;obtain ⟨B,es,clock,h1,h2,h3,h4,h5,h6⟩:=hM.ex;refine qu (cv:=a.eval (.tmp m)) (w':=w) (by rw[hop _ ho];rfl) (hn _ _ _ _ (by rw[hd];exact hs.put (.undef ..)) ?_ h);rw[hd];refine⟨B,es,clock,h1,h2,h3,h4,fun m' hm'=>?_,h6⟩;simp only[Act.put];rw[jW];split
     ·exact h5 m hc
     ·rename_i hne;rcases List.mem_cons.1 hm' with rfl | hm'
      ·exact absurd ⟨rfl,by rw[<- hs.sz];exact hl⟩ hne
      ·exact h5 m' hm'
    ·exact h.elim
   ·exact hpop h
  ·exact hpop h
 ·exact hpop h
theorem P6 {P:Program} (hil:kG P il) {ops:Array Oper} {K:St->Prop} {Q:Exit->Act->World->Prop} (hQ:∀a w,At ds n μ0 ρ0 w0 K a w->Q .normal a w) :
  ∀(l:List Oper) (k:Nat) (M:Option v8) (ρ:RO) (μ:Lay) (σ:St) (a:Act) (w:World),ops.toList.drop k=l->Sat ds n μ0 ρ0 w0 ρ μ σ a w->Mid w0 ρ μ σ a w M->uf P (yj P frs il) n l M σ K->wpOpsIn (Fr ro) 0 P ops Q (List.range' k l.length) a w:=by
 intro l;induction l with
 |nil=>intro k M ρ μ σ a w _ hs _ h;exact hQ a w ⟨ρ,μ,σ,hs,h⟩
 |cons o r ih =>
  intro k M ρ μ σ a w hd hs hM h;have ho:ops[k]? = some o:=by
   have:(ops.toList.drop k)[0]? = some o:=by rw[hd];rfl
   simpa using this
  have hr:ops.toList.drop (k+1)=r:=by
   have:(ops.toList.drop k).drop 1=r:=by rw[hd];rfl
   rw[List.drop_drop] at this;rw[<- this,Nat.add_comm]
  rw[List.length_cons,List.range'_succ];refine YL ho ?_;unfold uf at h;split at h
  ·exact h.elim
  rename_i hg;have hg:o.guard=none:=by simpa using hg
  refine .inl ⟨by simp[Region.wanted,hg],?_⟩;split at h
  ·split at h
   ·rename_i t d hop hdst;split at h
    ·rename_i hc;rw[Bool.and_eq_true] at hc;have hl:=zt_ hc.2;have hrun:(execOp a.eval o).run P w=.ok (.value (.map (some w.heap.size))) (w.alloc (.map #[] 0)):=by
      obtain ⟨dst,op,type,pos,after,guard⟩:=o;simp only at hop;subst hop;rfl
     have hs':Sat ds n μ0 ρ0 w0 ρ μ σ a (w.alloc (.map #[] 0)):=hs.turn (T:=fun _=>False) (by simp) (fun k hk _=>(MapKept.heap_alloc w _).2 k hk) (fun k hk=>hk.elim) (fun b x hx hk he=>he.elim) (fun k hk=>hk.elim) rfl rfl rfl;refine qu hrun ?_;rw[hdst];refine ih (k+1) (some ⟨[d],[]⟩) ρ μ _ _ _ hr (hs'.put (.undef ..)) ⟨w.heap.size,#[],0,(MapKept.heap_alloc w _).1,hs.size,?_,fun b x hx hk he=>?_,fun m hm=>?_,trivial⟩ h
     ·cases hρ:ρ w.heap.size with
      |none=>rfl
      |some o=>have:=(Array.getElem?_eq_some_iff.1 (hs.ro _ _ hρ)).1;omega
     ·rcases (hs.box b x hx).blk with h0 | ⟨o,h,_⟩
      ·exact absurd h0 hk
      ·have:=(Array.getElem?_eq_some_iff.1 h).1;omega
     ·obtain rfl:=List.mem_singleton.1 hm;simp only[Act.put];rw[jW,if_pos ⟨rfl,by rw[<- hs.sz];exact hl⟩]
    ·exact h.elim
   ·exact h.elim
   ·refine Oper.wpIn_mono ?_ (YS hil hs h);rintro a w ⟨ρ,μ,σ,hs,h⟩;exact ih (k+1) none ρ μ σ a w hr hs trivial h
  ·exact MW hs hM (fun M σ a w hs hM h=>ih (k+1) (some M) ρ μ σ a w hr hs hM h) h
end
end Go.Proofs.YtkojpnkknehhmaaGreatDoor

/- Regions in which a map from Booleans is made that is known there alone. -/
import Derived.Test.YtdeeekgohhkdbaaGreatDoorN3
namespace Go.Proofs.YtdeeekgohhkdbaaGreatDoor
open Go.RowKit

def WS (ρ:RO) (μ:Lay):List (Bool × AV)->List MapEntry->Prop
 | [],[]=>True
 | m::M,e::E=>(e.key=.bool m.1/\Rv ρ (some μ) m.2 e.val)/\WS ρ μ M E
 | _,_=>False
theorem WS.find {ρ:RO} {μ:Lay} {b:Bool}:∀ {M:List (Bool × AV)} {E:List MapEntry} (i:Nat),WS ρ μ M E ->
  (∀ v,M.lookup b=some v->∃ j cv,Instr.findNow .bool (.bool b) E i=some (some (j,cv))/\Rv ρ (some μ) v cv)/\(M.lookup b=none->Instr.findNow .bool (.bool b) E i=some none)
 | [],[],i,_=>⟨fun v h=>(by simp at h),fun _=>rfl⟩
 | [],_::_,_,h=>h.elim
 | _::_,[],_,h=>h.elim
 | (k,v)::M,e::E,i,⟨⟨h1,h2⟩,h3⟩=>by
  obtain ⟨g1,g2⟩:=WS.find (b:=b) (i+1) h3
  simp only [List.lookup,Instr.findNow,h1,Instr.sameNow]
  by_cases hk:b=k
  ·subst hk
   simp only [beq_self_eq_true,Option.some.injEq,reduceCtorEq,false_implies,and_true]
   rintro v' rfl
   exact ⟨i,e.val,rfl,h2⟩
  ·have hb:(b == k)=false:=by simpa using hk
   simp only [hb]
   exact ⟨g1,g2⟩
theorem WS.push {ρ:RO} {μ:Lay} {b:Bool} {v:AV} {cv:Value} {n:Nat} (hv:Rv ρ (some μ) v cv):∀ {M:List (Bool × AV)} {E:List MapEntry},WS ρ μ M E->WS ρ μ (M++[(b,v)]) (E++[{ key:=.bool b,val:=cv,born:=n }])
 | [],[],_=>⟨⟨rfl,hv⟩,trivial⟩
 | [],_::_,h=>h.elim
 | _::_,[],h=>h.elim
 | _::_,_::_,⟨h1,h2⟩=>⟨h1,WS.push hv h2⟩
theorem Y4 {P:Program} {t:TypeId} (h:uW P t=true):∃ k e,P.underlying t=some (.map k e)/\P.underlying k=some .bool:=by
 unfold uW at h
 split at h
 ·rename_i k e hu
  split at h
  ·rename_i hk; exact ⟨k,e,hu,hk⟩
  ·cases h
 ·cases h

section
variable {frs:Ways} {il:vJ} {ds:List Deferred} {n:Nat} {μ0:Lay} {ρ0:RO} {w0:World} {ρ:RO} {μ:Lay} {Z:St} {a:Act} {w:World} {ro:Option Nat}
structure WR (w0:World) (ρ:RO) (μ:Lay) (M:uo) (Z:St) (a:Act) (w:World):Prop where
 ex:∃ B es clock,w.heap[B]?=some (.map es clock)/\w0.heap.size<=B/\ρ B=none/\(∀ b x,Z.bx.getD b none=some x->(μ b).2≠0->(μ b).1≠B)/\(∀ m∈M.sl,a.tmps.getD m Go.undef=.map (some B))/\WS ρ μ M.es es.toList
theorem WR.put {M:uo} (h:WR w0 ρ μ M Z a w) {d:Option Nat} {v:AV} {cv:Value} (hd:UY M d=true):WR w0 ρ μ M (Z.put d v) (a.put d cv) w:=by
 obtain ⟨B,es,clock,h1,h2,h3,h4,h5,h6⟩:=h.ex
 refine ⟨B,es,clock,h1,h2,h3,?_,fun m hm=>?_,h6⟩
 ·cases d<;>exact h4
 ·cases d with
  | none=>exact h5 m hm
  | some d =>
   simp only [Act.put]
   rw [jG]
   split
   ·rename_i hc
    exfalso
    simp only [UY,Bool.not_eq_true',] at hd
    rw [<- hc.1] at hd
    have:M.sl.contains m=true:=by simpa using hm
    rw [this] at hd; cases hd
   ·exact h5 m hm
def Mid (w0:World) (ρ:RO) (μ:Lay) (Z:St) (a:Act) (w:World):Option uo->Prop
 | none=>True
 | some M=>WR w0 ρ μ M Z a w
theorem N6 {P:Program} {o:Oper} {M:uo} {K:uo->St->Prop} {next:Act->World->Prop} {Q:Exit->Act->World->Prop} (hs:Sat ds n μ0 ρ0 w0 ρ μ Z a w) (hM:WR w0 ρ μ M Z a w)
  (hn:∀ M Z a w,Sat ds n μ0 ρ0 w0 ρ μ Z a w->WR w0 ρ μ M Z a w->K M Z->next a w) (h:N5 P o M Z K):o.wpIn (Fr ro) 0 P a w next Q:=by
 have hpop:Wk P o M Z K->o.wpIn (Fr ro) 0 P a w next Q:=fun h=>by
  unfold Wk at h
  split at h
  ·rename_i hc
   split at h
   ·rename_i v hv
    obtain ⟨cv,h1,h2⟩:=u7 (fun x=>hs.eval x) o hv w
    exact qh h1 (hn _ _ _ _ (hs.put h2) (hM.put hc) h)
   ·exact h.elim
  ·exact h.elim
 have hop:∀ x,o.op=x->(execOp a.eval o)=(execOp a.eval { o with op:=x }):=fun x h=>by rw [<- h]
 unfold N5 at h
 split at h
 ·rename_i t x ho
  split at h
  ·rename_i hc
   obtain ⟨v,cv,h1,h2,h3⟩:=VE hs (hs.eval x) h
   exact qh (by rw [hop _ ho]; exact y6 h1) (hn _ _ _ _ (hs.put h2) (hM.put hc) h3)
  ·exact h.elim
 ·rename_i t x k v ho
  split at h
  ·rename_i m b hb
   split at h
   ·rename_i hc
    simp only [Bool.and_eq_true,List.contains_iff_mem] at hc
    obtain ⟨⟨⟨hm,hbm⟩,hnew⟩,hfree⟩:=hc
    obtain ⟨kt,et,hu,hk⟩:=Y4 hbm
    obtain ⟨B,es,clock,h1,h2,h3,h4,h5,h6⟩:=hM.ex
    have hkey:=wx hb (hs.eval k)
    have hfind:=(WS.find (b:=b) 0 h6).2 (by simpa using hnew)
    have hrun:(Instr.mapUpdate t (a.eval (.tmp m)) (a.eval k) (a.eval v)).run P w=.ok () (w.putObj B (.map (es.push { key:=.bool b,val:=a.eval v,born:=clock }) (clock+1))):=by
     rw [show a.eval (.tmp m)=.map (some B) from h5 m hm,hkey]
     simp [Instr.mapUpdate,run_underlying hu,MapKept.run_getObj_map h1,MapKept.run_checkKey hk (show MapKept.IsKey .bool (.bool b) from trivial),MapKept.run_findKey hk hfind,MapKept.run_setObj_map _ h1,Result.andThen]
     rfl
    refine Sk (by rw [hop _ ho]; simp [execOp,hrun]) (hn _ _ _ _ ((hs.turn (w':=w.putObj B (.map (es.push { key:=.bool b,val:=a.eval v,born:=clock }) (clock+1))) (T:=(·=B)) (by simp) (fun k _ hk=>World.putObj_heap_other hk) (fun k hk=>hk▸h3) (fun b x hx hk he=>h4 b x hx hk he) (fun k hk=>.inl (hk▸h2)) rfl rfl rfl).put (.tup _ _ #[] rfl (fun j=>.undef ..))) ?_ h)
    have hM':WR w0 ρ μ ⟨M.sl,M.es++[(b,ev Z v)]⟩ Z a (w.putObj B (.map (es.push { key:=.bool b,val:=a.eval v,born:=clock }) (clock+1))):=⟨B,_,_,World.putObj_heap_same (Array.getElem?_eq_some_iff.1 h1).1,h2,h3,h4,h5,by
     rw [Array.toList_push]; exact h6.push (hs.eval v)⟩
    exact hM'.put hfree
   ·exact h.elim
  ·exact h.elim
 ·rename_i t x k ok ho
  split at h
  ·rename_i m b hb
   split at h
   ·rename_i hc
    simp only [Bool.and_eq_true,List.contains_iff_mem,Bool.not_eq_true'] at hc
    obtain ⟨⟨⟨hok,hm⟩,hbm⟩,hfree⟩:=hc
    obtain ⟨kt,et,hu,hk⟩:=Y4 hbm
    obtain ⟨B,es,clock,h1,h2,h3,h4,h5,h6⟩:=hM.ex
    have hkey:=wx hb (hs.eval k)
    have hget:VK M o.dst b Z K:=by
     cases b with
     | true=>exact h.1 rfl
     | false=>exact h.2 rfl
    unfold VK at hget
    split at hget
    ·rename_i v hv
     obtain ⟨j,cv,hfind,hcv⟩:=(WS.find (b:=b) 0 h6).1 v hv
     have hrun:(Instr.lookup t (a.eval (.tmp m)) (a.eval k) ok).run P w=.ok cv w:=by
      rw [show a.eval (.tmp m)=.map (some B) from h5 m hm,hkey,hok]
      simp [Instr.lookup,run_underlying hu,MapKept.run_getObj_map h1,MapKept.run_checkKey hk (show MapKept.IsKey .bool (.bool b) from trivial),MapKept.run_findKey hk hfind,Result.andThen]
     exact qh (by rw [hop _ ho]; exact y6 hrun) (hn _ _ _ _ (hs.put hcv) (hM.put hfree) hget)
    ·exact hget.elim
   ·exact h.elim
  ·exact h.elim
 ·rename_i x ho
  split at h
  ·rename_i m d hd
   split at h
   ·rename_i hc
    simp only [List.contains_iff_mem] at hc
    split at h
    ·rename_i hl
     have hl:=zt_ hl
     obtain ⟨B,es,clock,h1,h2,h3,h4,h5,h6⟩:=hM.ex
     refine qh (cv:=a.eval (.tmp m)) (w':=w) (by rw [hop _ ho]; rfl) (hn _ _ _ _ (by rw [hd]; exact hs.put (.undef ..)) ?_ h)
     rw [hd]
     refine ⟨B,es,clock,h1,h2,h3,h4,fun m' hm'=>?_,h6⟩
     simp only [Act.put]
     rw [jG]
     split
     ·exact h5 m hc
     ·rename_i hne
      rcases List.mem_cons.1 hm' with rfl | hm'
      ·exact absurd ⟨rfl,by rw [<- hs.sz]; exact hl⟩ hne
      ·exact h5 m' hm'
    ·exact h.elim
   ·exact hpop h
  ·exact hpop h
 ·exact hpop h
theorem Q9 {P:Program} (hil:jK P il) {ops:Array Oper} {K:St->Prop} {Q:Exit->Act->World->Prop} (hQ:∀ a w,At ds n μ0 ρ0 w0 K a w->Q .normal a w) :
  ∀ (l:List Oper) (k:Nat) (M:Option uo) (ρ:RO) (μ:Lay) (Z:St) (a:Act) (w:World),ops.toList.drop k=l->Sat ds n μ0 ρ0 w0 ρ μ Z a w->Mid w0 ρ μ Z a w M->uu P (yp P frs il) n l M Z K->wpOpsIn (Fr ro) 0 P ops Q (List.range' k l.length) a w:=by
 intro l
 induction l with
 | nil=>intro k M ρ μ Z a w _ hs _ h; exact hQ a w ⟨ρ,μ,Z,hs,h⟩
 | cons o r ih =>
  intro k M ρ μ Z a w hd hs hM h
  have ho:ops[k]?=some o:=by
   have:(ops.toList.drop k)[0]?=some o:=by rw [hd]; rfl
   simpa using this
  have hr:ops.toList.drop (k+1)=r:=by
   have:(ops.toList.drop k).drop 1=r:=by rw [hd]; rfl
   rw [List.drop_drop] at this
   rw [<- this,Nat.add_comm]
  rw [List.length_cons,List.range'_succ]
  refine ka ho ?_
  unfold uu at h
  split at h
  ·exact h.elim
  rename_i hg
  have hg:o.guard=none:=by simpa using hg
  refine .inl ⟨by simp [Region.wanted,hg],?_⟩
  split at h
  ·split at h
   ·rename_i t d hop hdst
    split at h
    ·rename_i hc
     rw [Bool.and_eq_true] at hc
     have hl:=zt_ hc.2
     have hrun:(execOp a.eval o).run P w=.ok (.value (.map (some w.heap.size))) (w.alloc (.map #[] 0)):=by
      obtain ⟨dst,op,type,pos,after,guard⟩:=o
      simp only at hop
      subst hop
      rfl
     have hs':Sat ds n μ0 ρ0 w0 ρ μ Z a (w.alloc (.map #[] 0)):=hs.turn (T:=fun _=>False) (by simp) (fun k hk _=>(MapKept.heap_alloc w _).2 k hk) (fun k hk=>hk.elim) (fun b x hx hk he=>he.elim) (fun k hk=>hk.elim) rfl rfl rfl
     refine qh hrun ?_
     rw [hdst]
     refine ih (k+1) (some ⟨[d],[]⟩) ρ μ _ _ _ hr (hs'.put (.undef ..)) ⟨w.heap.size,#[],0,(MapKept.heap_alloc w _).1,hs.size,?_,fun b x hx hk he=>?_,fun m hm=>?_,trivial⟩ h
     ·cases hρ:ρ w.heap.size with
      | none=>rfl
      | some o=>have:=(Array.getElem?_eq_some_iff.1 (hs.ro _ _ hρ)).1; omega
     ·rcases (hs.box b x hx).blk with h0 | ⟨o,h,_⟩
      ·exact absurd h0 hk
      ·have:=(Array.getElem?_eq_some_iff.1 h).1; omega
     ·obtain rfl:=List.mem_singleton.1 hm
      simp only [Act.put]
      rw [jG,if_pos ⟨rfl,by rw [<- hs.sz]; exact hl⟩]
    ·exact h.elim
   ·exact h.elim
   ·refine Oper.wpIn_mono ?_ (Y1 hil hs h)
    rintro a w ⟨ρ,μ,Z,hs,h⟩
    exact ih (k+1) none ρ μ Z a w hr hs trivial h
  ·exact N6 hs hM (fun M Z a w hs hM h=>ih (k+1) (some M) ρ μ Z a w hr hs hM h) h
end
end Go.Proofs.YtdeeekgohhkdbaaGreatDoor

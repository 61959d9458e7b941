/- The parts of round.Insert that copy a plan and put a job into a copy. -/
import Derived.Test.YtdeeekgohhkdbaaGreatDoorUc
namespace Go.Proofs.YtdeeekgohhkdbaaGreatDoor
open Go.RowKit
def qH (f:Func):Code:=f.body.getD .skip
def v8 (id:Nat):Code->List (Code × Code)
 |.seq a b=>if jT a=some id then [(a,b)] else v8 id a++v8 id b
 |.cond _ a b | .rangeFunc _ _ a b=>v8 id a++v8 id b
 |.block _ b | .loop b | .scope b=>v8 id b
 |_=>[]
def Fj (l:List (Code × Code)):Code:=j8 2 (l.headD (.skip,.skip)).2
def Me (r21 r22 r23 r24:Array Oper):Code:=.seq (.region 21 r21 false) (.seq (.cond (.tmp 72) .skip (.exit 5)) (.seq (.block 6 (.seq (.region 22 r22 false) (.region 23 r23 false))) (.region 24 r24 false)))
def Gu (r20 r21 r22 r23 r24 r25:Array Oper) (rest:Code):Code:=.seq (.seq (.region 20 r20 false) (.block 5 (.loop (Me r21 r22 r23 r24)))) (.seq (.region 25 r25 false) rest)
abbrev wT (l:List (Option Nat × Op)):List (Option Nat × Op × Bool):=l.map fun q=>(q.1,q.2,true)
def l19:List (Option Nat × Op):=[(some 18,.assign (.const (.slice none 0 0)))]
def l20:List (Option Nat × Op):=[(some 69,.move (.tmp 1)),(some 70,.call { callee:=.builtin .len,args:=#[.tmp 69],argTypes:=#[32] }),(some 71,.move (.const (.int .i64 0)))]
def l21:List (Option Nat × Op):=[(some 72,.binOp .lss 3 (.tmp 71) (.tmp 70) 3)]
def l22:List (Option Nat × Op):=[(some 73,.indexAddr 32 (.tmp 69) (.tmp 71)),(some 74,.load 41 (.tmp 73)),(some 20,.assign (.tmp 74))]
def l23:List (Option Nat × Op):=[(some 75,.move (.tmp 18)),(some 76,.move (.tmp 20)),(some 77,.call { callee:=.value (.func 49),args:=#[.tmp 76],argTypes:=#[41] }),(some 78,.buildSlice 32 1 #[(0,.tmp 77)]),
 (some 79,.call { callee:=.builtin .append,args:=#[.tmp 75,.tmp 78],argTypes:=#[32,32] }),(some 18,.assign (.tmp 79))]
def l24:List (Option Nat × Op):=[(some 80,.binOp .add 3 (.tmp 71) (.const (.int .i64 1)) 3),(some 71,.move (.tmp 80))]
def l25:List (Option Nat × Op):=[(some 81,.move (.tmp 18)),(some 82,.move (.tmp 15)),(some 83,.move (.tmp 18)),(some 84,.move (.tmp 15)),(some 85,.indexAddr 32 (.tmp 83) (.tmp 84)),(some 86,.load 41 (.tmp 85)),(some 87,.move (.tmp 17)),(some 88,.move (.tmp 2)),
 (some 89,.buildSlice 41 1 #[(0,.tmp 88)]),(some 90,.call { callee:=.value (.func 96),args:=#[.tmp 86,.tmp 87,.tmp 89],argTypes:=#[41,3,41] }),(some 91,.indexAddr 32 (.tmp 81) (.tmp 82)),(none,.store 41 (.tmp 91) (.tmp 90))]
theorem o19:(kp 19 (qH Tryz.f39)).toList.map qz=wT l19:=by kernel_rfl
theorem o20:(kp 20 (qH Tryz.f39)).toList.map qz=wT l20:=by kernel_rfl
theorem o21:(kp 21 (qH Tryz.f39)).toList.map qz=wT l21:=by kernel_rfl
theorem o22:(kp 22 (qH Tryz.f39)).toList.map qz=wT l22:=by kernel_rfl
theorem o23:(kp 23 (qH Tryz.f39)).toList.map qz=wT l23:=by kernel_rfl
theorem o24:(kp 24 (qH Tryz.f39)).toList.map qz=wT l24:=by kernel_rfl
theorem o25:(kp 25 (qH Tryz.f39)).toList.map qz=wT l25:=by kernel_rfl
theorem u32:Tryz.prog.underlying 32=some (.slice 41):=by kernel_rfl
theorem u41:Tryz.prog.underlying 41=some (.slice 3):=by kernel_rfl
theorem k41:Tryz.prog.cellsOf 41=1:=by kernel_rfl
theorem i41:(Tryz.prog.info? 41).map (fun i=>(i.zero,i.size))=some (some (.slice none 0 0),1):=by kernel_rfl
theorem i3:(Tryz.prog.info? 3).map (fun i=>(i.zero,i.size))=some (some (.int .i64 0),1):=by kernel_rfl
def ky:List Nat:=[20,69,70,71,72,73,74,75,76,77,78,79,80,81,82,83,84,85,86,87,88,89,90,91]
def Ox (ρ:RO) (v1:Value) (L:List (List Int)):Prop:=∃b o cap,∃c:Nat->Value,v1=.slice (some ⟨b,o,none⟩) L.length cap/\∀i,i<L.length->ρ.cell b (o+i)=some (c i)/\Rv ρ none (.slc 3 ((L.getD i []).map (AV.int .i64))) (c i)
structure TK (W w:World) (L:List (List Int)) (pv:Value) (j:Nat) (ps:List Value):Prop where
 row:w.ownsRow W.heap.size 41 1 pv j ps
 each:∀(t:Nat) (v:Value),ps[t]? = some v->w.ownsRow W.heap.size 3 1 v (L.getD t []).length (jW (L.getD t []))
 apart:∀(t t':Nat) (v v':Value),t<t'->ps[t]? = some v->ps[t']? = some v'->v.ownBlock=none\/v.ownBlock≠v'.ownBlock
structure AtJ (a:Act) (W:World) (v1:Value) (L:List (List Int)) (j:Nat) (a':Act) (w':World):Prop where
 size:a'.tmps.size=a.tmps.size
 dfr:a'.defers=a.defers
 same:∀t,t∉18::ky->a'.eval (.tmp t)=a.eval (.tmp t)
 t69:a'.eval (.tmp 69)=v1
 t70:a'.eval (.tmp 70)=.int .i64 L.length
 t71:a'.eval (.tmp 71)=.int .i64 j
 below:Below W.heap.size W w'
 rows:∃ps,TK W w' L (a'.eval (.tmp 18)) j ps
theorem TK.len {W w:World} {L:List (List Int)} {pv:Value} {j:Nat} {ps:List Value} (h:TK W w L pv j ps):ps.length=j:=by have:=h.row.1;omega
theorem TK.more {W w w2 w3:World} {L:List (List Int)} {pv pv' v':Value} {j:Nat} {ps:List Value} (h:TK W w L pv j ps) (hb:Below w.heap.size w w2) (hW:W.heap.size<=w.heap.size)
  (hv:w2.ownsRow w.heap.size 3 1 v' (L.getD j []).length (jW (L.getD j []))) (hr:w3.ownsRow W.heap.size 41 1 pv' (j+1) (ps++[v'])) (hg:w2.grownBy w3 pv.ownBlock):TK W w3 L pv' (j+1) (ps++[v']):=by
 have hl:=h.len;have hpv:w2.ownsRow W.heap.size 41 1 pv j ps:=kM h.row fun g hg=>hb.block g (wh h.row hg).2
 have keep:∀ {v:Value} {n:Nat} {xs:List Value},w2.ownsRow W.heap.size 3 1 v n xs->w3.ownsRow W.heap.size 3 1 v n xs:=by
  intro v n xs hv;refine kM hv fun g hgv=>hg.block g (wh hv hgv).2 fun he=>?_
  rcases NG hpv hv (by decide) with h1 | h1
  ·rw[h1] at he;cases he
  ·exact h1 (by rw[<- he,hgv])
 refine⟨hr,fun t v ht=>?_,fun t t' v u htt ht ht'=>?_⟩
 ·rw[List.getElem?_append] at ht;split at ht
  ·exact keep (kM (h.each t v ht) fun g hg=>hb.block g (wh (h.each t v ht) hg).2)
  ·rename_i hlt;have htj:t=j:=by
    have:=(List.getElem?_eq_some_iff.1 ht).1;simp at this;omega
   subst htj;rw[hl,Nat.sub_self] at ht;simp only[List.getElem?_cons_zero,Option.some.injEq] at ht;subst ht;exact keep (J4 hv hW)
 ·rw[List.getElem?_append] at ht ht';have htlt:t<ps.length:=by
   by_cases hh:t<ps.length
   ·exact hh
   ·rw[if_neg hh] at ht;have h1:=(List.getElem?_eq_some_iff.1 ht).1;by_cases hh':t'<ps.length
    ·omega
    ·rw[if_neg hh'] at ht';have h2:=(List.getElem?_eq_some_iff.1 ht').1;simp at h1 h2;omega
  rw[if_pos htlt] at ht;by_cases hh:t'<ps.length
  ·rw[if_pos hh] at ht';exact h.apart t t' v u htt ht ht'
  ·rw[if_neg hh] at ht';have hu:u=v':=by
    have h2:=(List.getElem?_eq_some_iff.1 ht').1;have:t'-ps.length=0:=by simp at h2;omega
    rw[this] at ht';simp at ht';exact ht'.symm
   subst hu;cases hvb:v.ownBlock with
   |none=>exact .inl rfl
   |some g =>
    refine .inr fun he=>?_
    have h1:=(wh (h.each t v ht) hvb).2;have h2:=(wh hv he.symm).1;omega
theorem JV {a:Act} {w:World} {o:Oper} {x y:Operand} {v:Value} {j N vb:Nat} {ps:List Value} {u:Value} (ho:o.op=.call { callee:=.builtin .append,args:=#[x,y],argTypes:=#[32,32] }) (hx:a.eval x=v) (hy:a.eval y=.slice (some ⟨vb,0,none⟩) 1 1)
  (hown:w.ownsRow N 41 1 v j ps) (hvb:w.heap[vb]? = some (.cells #[u] 41 (0,0))) (h1:u.oneCell'=true) (hj:j<=1000) (hN:N<=w.heap.size) :
  ∃v' w',(execOp a.eval o).run Tryz.prog w=.ok (.value v') w'/\w'.ownsRow N 41 1 v' (j+1) (ps++[u])/\w.grownBy w' v.ownBlock:=by
 obtain ⟨i,hi,hz⟩:∃i,Tryz.prog.info? 41=some i/\(i.zero,i.size,i.bytes)=(some (.slice none 0 0),1,24):=Option.map_eq_some_iff.1 (show (Tryz.prog.info? 41).map (fun i=>(i.zero,i.size,i.bytes))=some (some (.slice none 0 0),1,24) by kernel_rfl);simp only[Prod.mk.injEq] at hz;have hml:maxLen=9223372036854775807:=by kernel_rfl
 obtain ⟨v',w',hr,h2,h3,-⟩:=run_append_own (P:=Tryz.prog) w N 32 o.type 41 i (.slice none 0 0) 1 24 u32 hi hz.1 hz.2.1 hz.2.2 rfl (by decide) v j ps hown ⟨vb,0,none⟩ 1 1 [u] rfl (fun k q hk=>by
  cases k with
  |zero=>simp at hk;subst hk;simp[Addr.add,World.cell?,hvb]
  |succ k=>simp at hk) (fun q hq=>by rw[List.mem_singleton.1 hq];exact h1) (by rw[hml];omega) (by omega) hN
 refine⟨v',w',?_,h2,h3⟩;unfold execOp;simp only[ho,resolve,invoke,builtin,Sem.run_bind,Sem.run_pure,Result.andThen_ok,List.map_toArray,List.map_cons,List.map_nil,hx,hy,hr]
theorem HI {a:Act} {w:World} {o:Oper} {f:FuncId} {x:Operand} {ts:Array TypeId} {v:Value} (hf:∀(vs:Array Value) (w:World),(callFunc f vs).run Tryz.prog w=.ok (.enter f vs) w) (ho:o.op=.call { callee:=.value (.func f),args:=#[x],argTypes:=ts }) (hx:a.eval x=v):(execOp a.eval o).run Tryz.prog w=.ok (.enter f #[v]) w:=by
 subst hx;simp only[execOp,ho,resolve,invoke,Deferred.ofValue,Sem.run_bind];simp[Act.eval,hf]
theorem HJ {a:Act} {w:World} {o:Oper} {f:FuncId} {x y z:Operand} {ts:Array TypeId} {v u t:Value} (hf:∀(vs:Array Value) (w:World),(callFunc f vs).run Tryz.prog w=.ok (.enter f vs) w) (ho:o.op=.call { callee:=.value (.func f),args:=#[x,y,z],argTypes:=ts }) (hx:a.eval x=v) (hy:a.eval y=u) (hz:a.eval z=t) :
  (execOp a.eval o).run Tryz.prog w=.ok (.enter f #[v,u,t]) w:=by
 subst hx;subst hy;subst hz;simp only[execOp,ho,resolve,invoke,Deferred.ofValue,Sem.run_bind];simp[Act.eval,hf]
theorem xI {a:Act} {w:World} {o:Oper} {x:Operand} {v:Value} (ho:o.op=.move x) (hx:a.eval x=v):(execOp a.eval o).run Tryz.prog w=.ok (.value v) w:=hx▸Fh ho
theorem Td {a:Act} {w:World} {o:Oper} {x:Operand} {v:Value} (ho:o.op=.assign x) (hx:a.eval x=v):(execOp a.eval o).run Tryz.prog w=.ok (.value v) w:=hx▸JW ho
theorem P3 {a:Act} {w:World} {o:Oper} {x:Operand} {t e:TypeId} {z v:Value} (ho:o.op=.buildSlice t 1 #[(0,x)]) (ht:Tryz.prog.underlying t=some (.slice e)) (he:(Tryz.prog.info? e).map (fun i=>(i.zero,i.size))=some (some z,1)) (hx:a.eval x=v) (h1:v.oneCell'=true) :
  (execOp a.eval o).run Tryz.prog w=.ok (.value (.slice (some ⟨w.heap.size,0,none⟩) 1 1)) (w.alloc (.cells #[v] e)):=by subst hx;exact JX ho ht he h1
theorem HH {a:Act} {w:World} {o:Oper} {x y:Operand} {t:TypeId} {dt:TypeDesc} {b off:Nat} {cur:Array Value} {e:TypeId} {v:Value} (ho:o.op=.store t x y) (ht:Tryz.prog.underlying t=some dt) (hsz:Tryz.prog.cellsOf t=1) (hx:a.eval x=.pointer (some ⟨b,off,none⟩)) (hb:w.heap[b]? = some (.cells cur e (0,0))) (hoff:off<cur.size)
  (hy:a.eval y=v) (h1:v.oneCell'=true):(execOp a.eval o).run Tryz.prog w=.ok .skip (w.setCell ⟨b,off,none⟩ v):=by subst hy;exact HK ho ht hsz hx hb hoff h1
theorem zal {ro:Option Nat} {a:Act} {w:World} {ops:Array Oper} {l:List (Option Nat × Op)} {Q:Exit->Act->World->Prop} {k m:Nat} {d:Option Nat} {p:Op} (h:ops.toList.map qz=l.map fun q=>(q.1,q.2,true)) (hk:l[k]? = some (d,p)) (R:Value->World->Prop)
  (hr:∀o:Oper,o.op=p->∃cv w',(execOp a.eval o).run Tryz.prog w=.ok (.value cv) w'/\R cv w') (hn:∀cv w',R cv w'->wpOpsIn (Fr ro) 0 Tryz.prog ops Q (List.range' (k+1) m) (a.put d cv) w'):wpOpsIn (Fr ro) 0 Tryz.prog ops Q (List.range' k (m+1)) a w:=by
 obtain ⟨o,h1,h2,h3,h4⟩:=WQ h hk;obtain ⟨cv,w',hc,hR⟩:=hr o h3;rw[List.range'_succ];exact km h1 (.inl ⟨by simp[Region.wanted,h4],qm hc (by rw[h2];exact hn cv w' hR)⟩)
theorem jw {a:Act} {d t:Nat} {v:Value} {l:List Nat} (hs:91<a.tmps.size) (hd:d∈l/\d<=91) (ht:t∉l):(a.put (some d) v).eval (.tmp t)=a.eval (.tmp t):=by
 rw[yK hs hd.2,if_neg (fun (h:t=d)=>ht (by rw[h];exact hd.1))]
theorem NW {j:Nat} (h:j<=1000):IntKind.i64.wrap ((j:Int)+1)=((j+1:Nat):Int):=by
 simp only[IntKind.wrap,IntKind.bits,IntKind.signed];simp;omega
section
variable {ro:Option Nat} {a a':Act} {W w':World} {v1:Value} {L:List (List Int)} {ρ:RO} {j:Nat} {Q:Exit->Act->World->Prop} {r21 r22 r23 r24:Array Oper}
theorem J3 (h21:r21.toList.map qz=wT l21) (h22:r22.toList.map qz=wT l22) (h23:r23.toList.map qz=wT l23) (h24:r24.toList.map qz=wT l24) (hL:L.length<=1000) (hx:∀x∈L,x.length<=1000) (hp:Ox ρ v1 L)
  (hro:∀k o,ρ k=some o->W.heap[k]? = some o) (sz:91<a.tmps.size) (h:AtJ a W v1 L j a' w') (hj:j<=L.length) (hstop:j=L.length->∀a'',AtJ a W v1 L j a'' w'->Q (.exit 5) a'' w')
  (hgo:j<L.length->∀a'' w'',AtJ a W v1 L (j+1) a'' w''->Q .normal a'' w''):(Me r21 r22 r23 r24).wpIn (Fr ro) 0 Tryz.prog Q a' w':=by
 have sz':91<a'.tmps.size:=by rw[h.size];exact sz
 obtain ⟨ps,hps⟩:=h.rows;obtain ⟨b,o,cap,c,hv1,hcell⟩:=hp;have hro':∀k o,ρ k=some o->w'.heap[k]? = some o:=fun k o hk=>by
  rw[h.below.block k (Array.getElem?_eq_some_iff.1 (hro k o hk)).1];exact hro k o hk
 unfold Me;refine wpIn_seq (wI h21 (je (k:=0) (m:=0) h21 rfl (fun o ho=>DZ ho h.t71 h.t70) (WB ?_)));have e72:(a'.put (some 72) (.bool (decide ((j:Int)<L.length)))).eval (.tmp 72)=.bool (decide (j<L.length)):=by
  rw[yK sz' (by decide),if_pos rfl];simp
 by_cases hlt:j<L.length
 ·refine wpIn_seq (wpIn_cond_true (by rw[e72];simp[hlt]) (wpIn_skip ?_));refine wpIn_seq (wpIn_block (wpIn_seq (wI h22 ?_)));refine je (k:=0) (m:=2) h22 rfl (fun o ho=>QD ho u32 u41 k41 (i:=j) (by simp[yK,sz',h.t69];exact hv1) (by simp[yK,yq,sz',h.t71]) hlt) ?_;refine je (k:=1) (m:=1) h22 rfl (fun o ho=>NA ho u41 (by kernel_rfl) (by simp[yK,yq,sz'])  (kZ hro' (hcell j hlt).1)) ?_;refine je (k:=2) (m:=0) h22 rfl (fun o ho=>Td ho (v:=c j) (by simp[yK,yq,sz'])) (WB ?_);refine wI h23 ?_;refine je (k:=0) (m:=5) h23 rfl (fun o ho=>xI ho (v:=a'.eval (.tmp 18)) (by simp[yK,yq,sz'])) ?_;refine je (k:=1) (m:=4) h23 rfl (fun o ho=>xI ho (v:=c j) (by simp[yK,yq,sz'])) ?_;have hcl:=M7 (x:=L.getD j []) (hcell j hlt).2 hro' (hx _ (by rw[List.getD_eq_getElem?_getD,List.getElem?_eq_getElem hlt];exact List.getElem_mem hlt));refine Gr (k:=2) (m:=3) h23 rfl (fun o ho=>HI Tryz.call49 ho (v:=c j) (by simp[yK,yq,sz'])) (hcl.mono ?_);rintro e w2 ⟨v',rfl,hv',hb2⟩;refine⟨v',rfl,?_⟩;refine je (k:=3) (m:=2) h23 rfl (fun o ho=>P3 ho u32 i41 (v:=v') (by simp[yK,yq,sz']) (QJ hv')) ?_;have hpv:w2.ownsRow W.heap.size 41 1 (a'.eval (.tmp 18)) j ps:=kM hps.row fun g hg=>hb2.block g (wh hps.row hg).2
  refine zal (k:=4) (m:=1) h23 rfl (fun v w=>w.ownsRow W.heap.size 41 1 v (j+1) (ps++[v'])/\(w2.alloc (.cells #[v'] 41)).grownBy w (a'.eval (.tmp 18)).ownBlock) (fun o ho=>?_) ?_
  ·exact JV ho (v:=a'.eval (.tmp 18)) (vb:=w2.heap.size) (by simp[yK,yq,sz']) (by simp[yK,yq,sz']) (kM hpv fun g hg=>heap_alloc_old w2 _ (wh hpv hg).2) (heap_alloc_new w2 _) (QJ hv') (by omega) (by have:=h.below.size;have:=hb2.size;simp;omega)
  rintro pv' w3 ⟨hown,hgr⟩;refine je (k:=5) (m:=0) h23 rfl (fun o ho=>Td ho (v:=pv') (by simp[yK,yq,sz'])) (WB ?_);refine wI h24 ?_;refine je (k:=0) (m:=1) h24 rfl (fun o ho=>(DX ho (i:=j) (j:=1) (by simp[yK,yq,sz',h.t71]) rfl).trans (by rw[NW (show j<=1000 by omega)])) ?_;refine je (k:=1) (m:=0) h24 rfl (fun o ho=>xI ho (v:=.int .i64 ((j+1:Nat):Int)) (by simp[yK,yq,sz'])) (WB ?_);refine hgo hlt _ _ ⟨by simp only[yq];exact h.size,by simp only[WR];exact h.dfr,fun t ht=>?_,by simp[yK,yq,sz',h.t69],by simp[yK,yq,sz',h.t70],by simp[yK,yq,sz'],?_,⟨ps++[v'],?_⟩⟩
  ·rw[jw (by simp only[yq];exact sz') (by simp[ky]) ht,jw (by simp only[yq];exact sz') (by simp[ky]) ht,jw (by simp only[yq];exact sz') (by simp) ht];repeat rw[jw (by simp only[yq];exact sz') (by simp[ky]) ht]
   rw[jw sz' (by simp[ky]) ht];exact h.same t ht
  ·have hb3:Below W.heap.size W w2:=h.below.trans ⟨hb2.os,hb2.tape,hb2.output,hb2.size,fun k hk=>hb2.block k (Nat.lt_of_lt_of_le hk h.below.size)⟩;have hs2:(w2.alloc (.cells #[v'] 41)).heap.size=w2.heap.size+1:=by simp
   refine hb3.trans ⟨hgr.os,hgr.tape,hgr.output,by have:=hgr.size;omega,fun k hk=>?_⟩;have hlt2:k<w2.heap.size:=Nat.lt_of_lt_of_le hk hb3.size;rw[hgr.block k (by omega) fun he=>by have:=(wh hpv he.symm).1;omega];exact heap_alloc_old w2 _ hlt2
  ·have hal:∀ {B n:Nat} {e:TypeId} {u:Value} {xs:List Value},w2.ownsRow B e 1 u n xs->(w2.alloc (.cells #[v'] 41)).ownsRow B e 1 u n xs:=fun hu=>kM hu fun g hg=>heap_alloc_old w2 _ (wh hu hg).2
   have hb4:Below w'.heap.size w' (w2.alloc (.cells #[v'] 41)):=hb2.trans ⟨rfl,rfl,rfl,by simp,fun k hk=>heap_alloc_old w2 _ (Nat.lt_of_lt_of_le hk hb2.size)⟩;have:=hps.more hb4 h.below.size (hal hv') hown hgr;simpa[yK,yq,sz'] using this
 ·refine wpIn_seq (wpIn_cond_false (by rw[e72];simp[hlt]) (wpIn_exit ?_));exact hstop (by omega) _ ⟨by rw[yq];exact h.size,h.dfr,fun t ht=>(jw sz' (by simp[ky]) ht).trans (h.same t ht),by simp[yK,sz',h.t69],by simp[yK,sz',h.t70],by simp[yK,sz',h.t71],h.below,⟨ps,by simpa[yK,sz'] using hps⟩⟩
end
section
variable {ro:Option Nat} {a a':Act} {W w':World} {v1:Value} {L:List (List Int)} {ρ:RO} {j i k:Nat} {job:Int} {Q:Exit->Act->World->Prop} {r20 r21 r22 r23 r24 r25:Array Oper}
theorem HC {E:Option Lay} {m:Nat} (h:Rv ρ E (.slc m (L.map fun x=>.slc 3 (x.map (AV.int .i64)))) v1) (hl:0<L.length):Ox ρ v1 L:=by
 generalize hes:L.map (fun x=>AV.slc 3 (x.map (AV.int .i64)))=es at h;have hlen:es.length=L.length:=by rw[<- hes];simp
 have hget:∀i,i<L.length->es.getD i .undef=.slc 3 ((L.getD i []).map (AV.int .i64)):=fun i hi=>by rw[<- hes];simp[List.getD,hi]
 cases h with
 |nilslc=>simp at hlen;omega
 |eslc=>simp at hlen;omega
 |slc _ _ _ b o cap k c hm hcap h2 hk hc hh =>
  have hk1:k=1:=by have:=hk 0 (by omega);rw[hget 0 hl] at this;exact this.symm
  subst hk1;refine⟨b,o,cap,fun i=>c i 0,by rw[hlen],fun i hi=>?_⟩;have h3:=hc i (by omega) 0 (by omega);have h4:=hh i 0;rw[hget i hi] at h4;exact⟨by simpa using h3,h4⟩
theorem HN (h21:r21.toList.map qz=wT l21) (h22:r22.toList.map qz=wT l22) (h23:r23.toList.map qz=wT l23) (h24:r24.toList.map qz=wT l24) (hL:L.length<=1000) (hx:∀x∈L,x.length<=1000) (hp:Ox ρ v1 L)
  (hro:∀k o,ρ k=some o->W.heap[k]? = some o) (sz:91<a.tmps.size) (hstop:∀a'' w'',AtJ a W v1 L L.length a'' w''->Q (.exit 5) a'' w''):∀(d j:Nat) (a':Act) (w':World),j+d=L.length->AtJ a W v1 L j a' w' ->
  Code.roundsIn (Fr ro) 0 Tryz.prog (Me r21 r22 r23 r24) Q (d+1) a' w':=by
 intro d;induction d with
 |zero =>
  intro j a' w' hj h;rw[roundsIn_succ];exact J3 h21 h22 h23 h24 hL hx hp hro sz h (by omega) (fun he a'' h'=>hstop a'' w' (by rw[<- he];exact h')) (fun hlt=>by omega)
 |succ d ih =>
  intro j a' w' hj h;rw[roundsIn_succ];exact J3 h21 h22 h23 h24 hL hx hp hro sz h (by omega) (fun he=>by omega) (fun hlt a'' w'' h'=>ih (j+1) a'' w'' (by omega) h')
theorem DW (h25:r25.toList.map qz=wT l25) (hx:∀x∈L,x.length<=1000) (sz:91<a.tmps.size) (h:AtJ a W v1 L L.length a' w') (hi:i<L.length) (hk:k<=(L.getD i []).length)
  (e15:a.eval (.tmp 15)=.int .i64 i) (e17:a.eval (.tmp 17)=.int .i64 k) (e2:a.eval (.tmp 2)=.int .i64 job)
  (hQ:∀a'' w'',a''.tmps.size=a.tmps.size->a''.defers=a.defers->(∀t,t∉18::ky->a''.eval (.tmp t)=a.eval (.tmp t))->Below W.heap.size W w'' ->
   (∀(ρ':RO) (E:Option Lay),(∀k o,W.heap.size<=k->w''.heap[k]? = some o->ρ' k=some o)->Rv ρ' E (UZ (y7 L i k job)) (a''.eval (.tmp 18)))->Q .normal a'' w''):(Code.region 25 r25 false).wpIn (Fr ro) 0 Tryz.prog Q a' w':=by
 have sz':91<a'.tmps.size:=by rw[h.size];exact sz
 obtain ⟨ps,hps⟩:=h.rows;have f15:=(h.same 15 (by simp[ky])).trans e15;have f17:=(h.same 17 (by simp[ky])).trans e17;have f2:=(h.same 2 (by simp[ky])).trans e2;generalize hpv:a'.eval (.tmp 18)=pv at hps;have hpl:=hps.len;rcases hps.row.2 with ⟨-,h0⟩ | ⟨g,cap,cur,rfl,hg0,hg,hnc,hcm,hcs,htk⟩
 ·omega
 rw[Nat.mul_one] at hcs htk;have hgi:i<ps.length:=by omega
 have hpi:ps[i]? = some ps[i]:=List.getElem?_eq_getElem hgi;have hcell:w'.cell? ⟨g,0+i,none⟩=some ps[i]:=by
  have:=hps.row.cells (g:=g) rfl i _ hpi;rwa[qt] at this
 have hrow:=hps.each i _ hpi;have hgb:g<w'.heap.size:=(Array.getElem?_eq_some_iff.1 hg).1;have hal:∀ {B n:Nat} {e:TypeId} {u:Value} {xs:List Value},w'.ownsRow B e 1 u n xs->(w'.alloc (.cells #[.int .i64 job] 3)).ownsRow B e 1 u n xs:=fun hu=>kM hu fun g hg=>heap_alloc_old w' _ (wh hu hg).2
 have hxi:(L.getD i []).length<=1000:=hx _ (by rw[List.getD_eq_getElem?_getD,List.getElem?_eq_getElem hi];exact List.getElem_mem hi);have hins:=Hk (vb:=w'.heap.size) (job:=job) (hal hrow) hk hxi (by have:=h.below.size;simp;omega) (heap_alloc_new w' _) (fun he=>by have:=(wh hrow he).2;omega);refine wI h25 ?_;refine je (k:=0) (m:=11) h25 rfl (fun o ho=>xI ho hpv) ?_;refine je (k:=1) (m:=10) h25 rfl (fun o ho=>xI ho (v:=.int .i64 i) (by simp[yK,sz',f15])) ?_;refine je (k:=2) (m:=9) h25 rfl (fun o ho=>xI ho (v:=.slice (some ⟨g,0,none⟩) L.length cap) (by simp[yK,yq,sz',hpv])) ?_;refine je (k:=3) (m:=8) h25 rfl (fun o ho=>xI ho (v:=.int .i64 i) (by simp[yK,yq,sz',f15])) ?_;refine je (k:=4) (m:=7) h25 rfl (fun o ho=>QD ho u32 u41 k41 (i:=i) (n:=L.length) (c:=cap) (b:=g) (oo:=0) (by simp[yK,yq,sz']) (by simp[yK,yq,sz']) hi) ?_;refine je (k:=5) (m:=6) h25 rfl (fun o ho=>NA ho u41 (by kernel_rfl) (by simp[yK,yq,sz']) hcell) ?_;refine je (k:=6) (m:=5) h25 rfl (fun o ho=>xI ho (v:=.int .i64 k) (by simp[yK,yq,sz',f17])) ?_;refine je (k:=7) (m:=4) h25 rfl (fun o ho=>xI ho (v:=.int .i64 job) (by simp[yK,yq,sz',f2])) ?_;refine je (k:=8) (m:=3) h25 rfl (fun o ho=>P3 ho u41 i3 (v:=.int .i64 job) (by simp[yK,yq,sz']) rfl) ?_;refine Gr (k:=9) (m:=2) h25 rfl (fun o ho=>HJ Tryz.call96 ho (v:=ps[i]) (u:=.int .i64 k) (t:=.slice (some ⟨w'.heap.size,0,none⟩) 1 1) (by simp[yK,yq,sz']) (by simp[yK,yq,sz']) (by simp[yK,yq,sz'])) (hins.mono ?_);rintro e w2 ⟨pi',rfl,hpi',hgr,hwho⟩;refine⟨pi',rfl,?_⟩;have hg2:w2.heap[g]? = some (.cells cur 41 (0,0)):=by
  rw[hgr.block g (by simp;omega) fun he=>?_,heap_alloc_old w' _ hgb]
  ·exact hg
  ·rcases NG hps.row hrow (by decide) with h1 | h1
   ·cases h1
   ·exact h1 he
 refine je (k:=10) (m:=1) h25 rfl (fun o ho=>QD ho u32 u41 k41 (i:=i) (n:=L.length) (c:=cap) (b:=g) (oo:=0) (by simp[yK,yq,sz']) (by simp[yK,yq,sz']) hi) ?_;refine Gs (k:=11) (m:=0) h25 rfl (fun o ho=>HH ho u41 k41 (b:=g) (off:=0+i) (by simp[yK,yq,sz']) hg2 (by omega) (v:=pi') (by simp[yK,yq,sz']) (QJ hpi')) (WB ?_);refine hQ _ _ (by simp only[yq];exact h.size) (by simp only[WR];exact h.dfr) (fun t ht=>?_) ?_ ?_
 ·repeat rw[jw (by simp only[yq];exact sz') (by simp[ky]) ht]
  rw[jw sz' (by simp[ky]) ht];exact h.same t ht
 ·have hs1:(w'.alloc (.cells #[.int .i64 job] 3)).heap.size=w'.heap.size+1:=by simp
  refine h.below.trans ⟨hgr.os,hgr.tape,hgr.output,?_,fun q hq=>?_⟩
  ·have:=hgr.size;have hs3:(w2.setCell ⟨g,0+i,none⟩ pi').heap.size=w2.heap.size:=by simp[World.setCell]
   omega
  ·have hq':q<w'.heap.size:=Nat.lt_of_lt_of_le hq h.below.size;rw[heap_setCell_other w2 _ q pi' (by show q≠g;omega),hgr.block q (by omega) fun he=>by have:=(wh hrow he.symm).1;omega];exact heap_alloc_old w' _ hq'
 ·intro ρ' E hρ;have hsame3:∀q,q≠g->(w2.setCell ⟨g,0+i,none⟩ pi').heap[q]? = w2.heap[q]?:=fun q hq=>heap_setCell_other w2 _ q pi' hq
  have hg3:=heap_setCell_same w2 g (0+i) cur 41 pi' hg2;have row3:∀ {B n:Nat} {u:Value} {xs:List Value},w2.ownsRow B 3 1 u n xs->(w2.setCell ⟨g,0+i,none⟩ pi').ownsRow B 3 1 u n xs:=fun {B n u xs} hu=>kM hu fun q hq=>hsame3 q fun he=>by
   have hpv2:w2.ownsRow W.heap.size 41 1 (.slice (some ⟨g,0,none⟩) L.length cap) L.length ps:=⟨hps.row.1,.inr ⟨g,cap,cur,rfl,hg0,hg2,hnc,hcm,by rw[hcs,Nat.mul_one],by rw[Nat.mul_one];exact htk⟩⟩;rcases NG hpv2 hu (by decide) with h1 | h1
   ·cases h1
   ·exact h1 (by rw[hq,he];rfl)
  have hlen:((y7 L i k job).map fun x=>AV.slc 3 (x.map (AV.int .i64))).length=L.length:=by simp[y7]
  have hget:∀q,q<L.length->((y7 L i k job).map fun x=>AV.slc 3 (x.map (AV.int .i64))).getD q .undef=.slc 3 (((y7 L i k job).getD q []).map (AV.int .i64)):=fun q hq=>by
   have:q<(y7 L i k job).length:=by simpa[y7] using hq
   simp[List.getD,this]
  have hrv:∀q,q<L.length->Rv ρ' none (.slc 3 (((y7 L i k job).getD q []).map (AV.int .i64))) ((ps.set i pi').getD q Go.undef):=by
   intro q hq;by_cases hqi:q=i
   ·subst hqi;have e1:(y7 L q k job).getD q []=(L.getD q []).take k++job::(L.getD q []).drop k:=by simp[y7,List.getD,hi]
    have e2:(ps.set q pi').getD q Go.undef=pi':=by simp[List.getD,hgi]
    rw[e1,e2];refine J5 (w:=w2.setCell ⟨g,0+q,none⟩ pi') (N:=W.heap.size) (e:=3) ?_ hρ;have:((L.getD q []).take k++job::(L.getD q []).drop k).length=(L.getD q []).length+1:=by simp only[List.length_append,List.length_take,List.length_cons,List.length_drop];omega
    rw[this];exact row3 hpi'
   ·have hqp:q<ps.length:=by omega
    have e1:(y7 L i k job).getD q []=L.getD q []:=by unfold y7;rw[List.getD_eq_getElem?_getD,List.getElem?_set_ne (Ne.symm hqi),<- List.getD_eq_getElem?_getD]
    have e2:(ps.set i pi').getD q Go.undef=ps[q]:=by rw[List.getD_eq_getElem?_getD,List.getElem?_set_ne (Ne.symm hqi),List.getElem?_eq_getElem hqp];rfl
    rw[e1,e2];have hq1:=hps.each q _ (List.getElem?_eq_getElem hqp);have hap:ps[q].ownBlock=none\/ps[q].ownBlock≠ps[i].ownBlock:=by
     rcases Nat.lt_or_ge q i with hlt | hge
     ·exact hps.apart q i _ _ hlt (List.getElem?_eq_getElem hqp) hpi
     ·rcases hps.apart i q _ _ (by omega) hpi (List.getElem?_eq_getElem hqp) with h1 | h1
      ·cases hob:ps[q].ownBlock with
       |none=>exact .inl rfl
       |some z=>exact .inr (by rw[h1];simp)
      ·exact .inr (Ne.symm h1)
    refine J5 (w:=w2.setCell ⟨g,0+i,none⟩ pi') (N:=W.heap.size) (e:=3) (row3 (kM (hal hq1) fun z hz=>hgr.block z (wh (hal hq1) hz).2 fun he=>?_)) hρ;rcases hap with h1 | h1
    ·rw[h1] at hz;cases hz
    ·exact h1 (by rw[hz,he])
  have e18:∀(b:Act),b.eval (.tmp 18)=.slice (some ⟨g,0,none⟩) L.length cap->Rv ρ' E (UZ (y7 L i k job)) (b.eval (.tmp 18)):=by
   intro b hb;rw[hb];have:=Rv.slc (ρ:=ρ') E 3 ((y7 L i k job).map fun x=>AV.slc 3 (x.map (AV.int .i64))) g 0 cap 1 (fun q _=>(ps.set i pi').getD q Go.undef) (by simp) (by rw[hlen];exact hnc) (by simp) (fun q hq=>by rw[hlen] at hq;rw[hget q hq];rfl) (fun q hq j hj=>by
    rw[hlen] at hq;have hj:j=0:=by omega
    subst hj;unfold RO.cell;rw[hρ g _ hg0 hg3];simp only[Nat.mul_one,Nat.zero_add,Nat.add_zero,Nat.not_lt_zero,and_false,if_false];by_cases hqi:q=i
    ·subst hqi;rw[Array.getElem?_setIfInBounds_self_of_lt (by omega)];simp[List.getD,hgi]
    ·rw[Array.getElem?_setIfInBounds_ne (Ne.symm hqi)];have:cur[q]? = ps[q]?:=by rw[<- htk,List.getElem?_take,if_pos hq,Array.getElem?_toList]
     rw[this,List.getElem?_eq_getElem (by omega)];rw[List.getD_eq_getElem?_getD,List.getElem?_set_ne (Ne.symm hqi),List.getElem?_eq_getElem (show q<ps.length by omega)];rfl) (fun q j=>by
    by_cases hq:q<L.length
    ·rw[hget q hq];cases j with
     |zero=>exact hrv q hq
     |succ j=>exact .undef ..
    ·rw[yO (l:=(y7 L i k job).map fun x=>AV.slc 3 (x.map (AV.int .i64))) (by rw[hlen];omega)];cases j<;>exact .undef ..)
   rw[hlen] at this;exact this
  exact e18 _ (by simp[yK,yq,sz',hpv])
end
theorem Sat.z8 {ds:List Deferred} {n:Nat} {E0:Lay} {ρ0:RO} {w0:World} {ρ:RO} {E:Lay} {Z:St} {a a':Act} {w:World} (hs:Sat ds n E0 ρ0 w0 ρ E Z a w) {l:List AV} (hd:a'.defers=a.defers) (hz:l.length=a'.tmps.size) (hl:∀t,Rv ρ (some E) (l.getD t .undef) (a'.tmps.getD t Go.undef)):Sat ds n E0 ρ0 w0 ρ E ⟨l,Z.bx⟩ a' w :=
 {hs with dfe:=hd.trans hs.dfe,sz:=hz,sl:=hl }
theorem Nj {ρ:RO} {E:Option Lay} {v:AV} {k:IntKind} {n:Int} {b:Bool} {cv:Value} (h:v.zr=some (k,n,b)) (hr:Rv ρ E v cv):cv=.int k n:=by
 cases hr<;>simp_all [AV.zr]
theorem O9:∀(ts:List Nat) (l:List AV) (t:Nat),(ts.foldl (fun l t=>l.set t .undef) l).getD t .undef=if t∈ts then .undef else l.getD t .undef:=by
 intro ts;induction ts with
 |nil=>intro l t;simp
 |cons q r ih =>
  intro l t;rw[List.foldl_cons,ih,y5];by_cases h1:t∈r
  ·simp[h1]
  ·by_cases h2:t=q
   ·subst h2;by_cases h3:t<l.length
    ·simp[h1,h3]
    ·simp only[h1,if_false,List.mem_cons,true_or,if_true];rw[if_neg (fun h=>h3 h.2),yO (by omega)]
   ·simp[h1,h2]
theorem Na:∀(ts:List Nat) (l:List AV),(ts.foldl (fun l t=>l.set t .undef) l).length=l.length:=by
 intro ts;induction ts with
 |nil=>intro l;rfl
 |cons q r ih=>intro l;rw[List.foldl_cons,ih];simp
theorem Sb (h:Hook) (Z:St) (t:Nat):(xA h Z).sl.getD t .undef=if t∈h.outs++h.clob then .undef else Z.sl.getD t .undef:=O9 ..
theorem Sc (h:Hook) (Z:St):(xA h Z).sl.length=Z.sl.length:=Na ..
theorem Ln {ds:List Deferred} {n:Nat} {E0:Lay} {ρ0:RO} {w0:World} {ρ:RO} {E:Lay} {Z:St} {act a3:Act} {W w3:World} {v:AV} {h:Hook} {d:Nat} (hs:Sat ds n E0 ρ0 w0 ρ E Z act W) (hsz:a3.tmps.size=act.tmps.size) (hdf:a3.defers=act.defers)
  (hsame:∀t,t∉h.outs++h.clob->a3.eval (.tmp t)=act.eval (.tmp t)) (hb:Below W.heap.size W w3) (hrv:∀(ρ':RO) (E:Option Lay),(∀k o,W.heap.size<=k->w3.heap[k]? = some o->ρ' k=some o)->Rv ρ' E v (a3.eval (.tmp d))) :
  ∃ρ',Sat ds n E0 ρ0 w0 ρ' E ((xA h Z).put (some d) v) a3 w3:=by
 have hs':=hs.zu (ρ':=fun q=>if W.heap.size<=q then w3.heap[q]? else ρ q) (w':=w3) (fun q o hq=>by
  have:=(Array.getElem?_eq_some_iff.1 (hs.ro q o hq)).1;show (if W.heap.size<=q then _ else _)=_;rw[if_neg (by omega)];exact hq) (fun q o hq=>by
  by_cases hh:W.heap.size<=q
  ·simp only[hh,if_true] at hq;exact hq
  ·simp only[hh,if_false] at hq;rw[hb.block q (by omega)];exact hs.ro q o hq) (fun q o hq hn=>by
  by_cases hh:W.heap.size<=q
  ·exact hh
  ·simp only[hh,if_false] at hq;rw[hn] at hq;cases hq) hb.block hb.size hb.os hb.tape hb.output
 refine⟨_,hs'.z8 (l:=((xA h Z).sl.set d v)) hdf (by rw[List.length_set,Sc,hsz];exact hs.sz) fun t=>?_⟩;rw[y5];split
 ·rename_i ht;rw[ht.1];exact hrv _ _ fun q o hq hw=>by rw[if_pos hq];exact hw
 ·rename_i ht;rw[Sb];by_cases hm:t∈h.outs++h.clob
  ·rw[if_pos hm];exact .undef ..
  ·rw[if_neg hm];have h3:=hsame t hm;have h4:=hs'.sl t;have h5:a3.tmps.getD t Go.undef=act.tmps.getD t Go.undef:=h3;rw[h5];exact h4
theorem DJ {r19 r20 r21 r22 r23 r24 r25:Array Oper} {rest:Code} (h19:r19.toList.map qz=wT l19) (h20:r20.toList.map qz=wT l20) (h21:r21.toList.map qz=wT l21) (h22:r22.toList.map qz=wT l22) (h23:r23.toList.map qz=wT l23) (h24:r24.toList.map qz=wT l24)
  (h25:r25.toList.map qz=wT l25):WL Tryz.prog xu ⟨0,2,[1,15,17,2],[18],ky⟩ (.region 19 r19 false) (Gu r20 r21 r22 r23 r24 r25 rest):=by
 intro ro ds n E0 ρ0 w0 ρ E Z act W K Q _ hs hv hgo;unfold UP at hv;split at hv
 ·exact hv.elim
 rename_i hall;simp only[Bool.not_eq_false,List.all_eq_true,decide_eq_true_eq] at hall;have sz:91<act.tmps.size:=by rw[<- hs.sz];exact hall 91 (by simp[ky])
 rw[if_neg (by decide:¬ (0:Nat)=1)] at hv;simp only[List.map_cons,List.map_nil] at hv;split at hv
 case h_2=>exact hv.elim
 rename_i m es vi vk vj d _ hins houts;split at hv
 case h_2=>exact hv.elim
 rename_i i bi k bk j bj hvi hvk hvj;obtain ⟨L,⟨hL,hi0,hiL,hk0,hkl,hL1,hLx⟩,hK⟩:=hv;simp only[List.cons.injEq,and_true] at hins houts;obtain ⟨h1,h15,h17,h2⟩:=hins;subst houts;simp only[UZ,AV.slc.injEq,true_and] at hL;have p1:Rv ρ (some E) (.slc m (L.map fun x=>.slc 3 (x.map (AV.int .i64)))) (act.eval (.tmp 1)):=by have:=hs.sl 1;rw[h1,hL] at this;exact this
 have hi:i.toNat<L.length:=by omega
 have e15:act.eval (.tmp 15)=.int .i64 i.toNat:=by have:=hs.sl 15;rw[h15] at this;rw[Int.toNat_of_nonneg hi0];exact Nj hvi this
 have e17:act.eval (.tmp 17)=.int .i64 k.toNat:=by have:=hs.sl 17;rw[h17] at this;rw[Int.toNat_of_nonneg hk0];exact Nj hvk this
 have e2:act.eval (.tmp 2)=.int .i64 j:=by have:=hs.sl 2;rw[h2] at this;exact Nj hvj this
 have hp:=HC p1 (by omega);obtain ⟨b,o,cap,c,hv1,hcell⟩:=hp;refine wpIn_seq (wI h19 (je (k:=0) (m:=0) h19 rfl (fun o ho=>Td ho (v:=.slice none 0 0) rfl) (WB ?_)));refine wpIn_seq (wpIn_seq (wI h20 ?_));refine je (k:=0) (m:=2) h20 rfl (fun o ho=>xI ho (v:=act.eval (.tmp 1)) (by simp[yK,sz])) ?_;refine je (k:=1) (m:=1) h20 rfl (fun o' ho=>DY ho u32 (q:=some ⟨b,o,none⟩) (n:=L.length) (c:=cap) (by simp[yK,yq,sz,hv1])) ?_;refine je (k:=2) (m:=0) h20 rfl (fun o ho=>xI ho (v:=.int .i64 0) rfl) (WB ?_);refine wpIn_block (wpIn_loop_rounds (L.length+1) (HN h21 h22 h23 h24 hL1 hLx ⟨b,o,cap,c,hv1,hcell⟩ hs.ro sz ?_ L.length 0 _ _ (by omega) ⟨by simp only[yq],by simp only[WR],fun t ht=>?_,by simp[yK,yq,sz],by simp[yK,yq,sz],by simp[yK,yq,sz],Below.refl _ _,[],?_⟩));rotate_left
 ·rw[jw (by simp only[yq];exact sz) (by simp[ky]) ht,jw (by simp only[yq];exact sz) (by simp[ky]) ht,jw (by simp only[yq];exact sz) (by simp[ky]) ht,jw sz (by simp) ht]
 ·refine⟨?_,fun t v ht=>by simp at ht,fun t t' v v' _ ht=>by simp at ht⟩;have:=World.ownsRow_nil W W.heap.size 41 1;simpa[yK,yq,sz] using this
 intro a2 w2 h2';simp only[Exit.inBlock,if_true];refine wpIn_seq (DW (i:=i.toNat) (k:=k.toNat) (job:=j) h25 hLx sz h2' hi (by omega) e15 e17 e2 ?_);intro a3 w3 hsz hdf hsame hb hrv;obtain ⟨ρ',hs'⟩:=Ln (h:=⟨0,2,[1,15,17,2],[18],ky⟩) (d:=18) hs hsz hdf hsame hb hrv;exact hgo ρ' E _ a3 w3 hs' hK
def kJ (id:Nat):Code->List (Code × Code)
 |.seq a b=>(if jT a=some id then [(a,b)] else [])++(kJ id a++kJ id b)
 |.cond _ a b | .rangeFunc _ _ a b=>kJ id a++kJ id b
 |.block _ b | .loop b | .scope b=>kJ id b
 |_=>[]
def UH:Code->Bool
 |.seq a b | .cond _ a b=>UH a && UH b
 |.rangeFunc ..=>false
 |.block _ b | .loop b | .scope b=>UH b
 |_=>true
theorem Wp {P:Program} {w:Ways} {R:RO->Prop} {n:Nat} {h:Hook} (hw:∀id h',kF w id=some h'->id=some n/\h'=h):∀c:Code,UH c=true->(∀q∈kJ n c,WL P R h q.1 q.2)->qO P w R c:=by
 intro c;induction c with
 |seq a b iha ihb =>
  intro hc hq;simp only[UH,Bool.and_eq_true] at hc;simp only[kJ,List.mem_append] at hq;refine⟨fun h' hh=>?_,iha hc.1 fun q h=>hq q (.inr (.inl h)),ihb hc.2 fun q h=>hq q (.inr (.inr h))⟩;obtain ⟨h1,rfl⟩:=hw _ _ hh;exact hq (a,b) (.inl (by rw[if_pos h1];exact List.mem_singleton.2 rfl))
 |cond c a b iha ihb =>
  intro hc hq;simp only[UH,Bool.and_eq_true] at hc;exact⟨iha hc.1 fun q h=>hq q (List.mem_append.2 (.inl h)),ihb hc.2 fun q h=>hq q (List.mem_append.2 (.inr h))⟩
 |rangeFunc g ps a b iha ihb=>intro hc;exact absurd hc (by simp[UH])
 |block id b ih=>exact fun hc hq=>ih hc hq
 |loop b ih=>exact fun hc hq=>ih hc hq
 |scope b ih=>exact fun hc hq=>ih hc hq
 |_=>exact fun _ _=>trivial
theorem TH {l:List (Nat × List AV)} {k:Nat} {v:List AV} (h:l.lookup k=some v) (hk:990000000<=k):(k,v)∈l.filter fun q=>decide (990000000<=q.1) :=
 List.mem_filter.2 ⟨ja h,by simpa using hk⟩
theorem UO {w:Ways} {n:Nat} {l:List AV} {h:Hook} (ha:(w.alts.filter fun q=>decide (990000000<=q.1))=[(990000000+n,l)]) (hd:Qn l=some h):∀id h',kF w id=some h'->id=some n/\h'=h:=by
 intro id h' hh;unfold kF at hh;cases id with
 |none=>cases hh
 |some id =>
  simp only at hh;split at hh
  ·cases hh
  ·cases hl:w.alts.lookup (990000000+id) with
   |none=>rw[hl] at hh;cases hh
   |some v =>
    rw[hl] at hh;have:=TH hl (by omega);rw[ha,List.mem_singleton,Prod.mk.injEq] at this;obtain ⟨h1,rfl⟩:=this;have h2:id=n:=by omega
    subst h2;refine⟨rfl,?_⟩;have h3:Qn v=some h':=hh;rw[hd] at h3;exact(Option.some.inj h3).symm
theorem JO:kJ 19 (qH Tryz.f39)=[(.region 19 (kp 19 (qH Tryz.f39)) false,Gu (kp 20 (qH Tryz.f39)) (kp 21 (qH Tryz.f39)) (kp 22 (qH Tryz.f39)) (kp 23 (qH Tryz.f39)) (kp 24 (qH Tryz.f39)) (kp 25 (qH Tryz.f39)) (Fj (v8 19 (qH Tryz.f39))))]:=by kernel_rfl
theorem zbQ {w:Ways} (hw:∀id h',kF w id=some h'->id=some 19/\h'=⟨0,2,[1,15,17,2],[18],ky⟩):∀c,Tryz.f39.body=some c->qO Tryz.prog w xu c:=by
 intro c hc;have hb:qH Tryz.f39=c:=by unfold qH;rw[hc];rfl
 refine Wp hw c (by rw[<- hb];kernel_rfl) fun q hq=>?_
 rw[<- hb,JO,List.mem_singleton] at hq;subst hq;exact DJ o19 o20 o21 o22 o23 o24 o25
end Go.Proofs.YtdeeekgohhkdbaaGreatDoor

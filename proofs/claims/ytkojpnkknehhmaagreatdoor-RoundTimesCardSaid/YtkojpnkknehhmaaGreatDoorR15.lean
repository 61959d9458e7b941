/- One operation of the evaluator holds of the machine's. Code: what the evaluator says of it holds of the machine's run; contracts out of the evaluator. -/
import Derived.Test.YtkojpnkknehhmaaGreatDoorF1
import Derived.Test.YtkojpnkknehhmaaGreatDoorMp
import Derived.LoopN
import Derived.LoopNIn
import Derived.OrdersIn
import Derived.TacticsIn
import Derived.RangeFuncLeaves
namespace Go.Proofs.YtkojpnkknehhmaaGreatDoor
open Go.RowKit
def At (ds:List Deferred) (n:Nat) (μ0:Lay) (ρ0:RO) (w0:World) (K:St->Prop) (a:Act) (w:World):Prop:=∃ρ μ σ,Sat ds n μ0 ρ0 w0 ρ μ σ a w/\K σ
section
variable {frs:Ways} {il:vZ} {ds:List Deferred} {n:Nat} {μ0:Lay} {ρ0:RO} {w0:World} {ρ:RO} {μ:Lay} {σ:St} {a:Act} {w:World}
abbrev Fr (ro:Option Nat):Fence:={ Fence.wide with round:=ro }
theorem u9 {P:Program} {o:Oper} {ro:Option Nat} {ρ:Operand->Value} {w w':World} {x:Next} (h:(execOp ρ o).run P w=.ok x w') (hx:∀d,x≠.defer d):(o.semAt ro ρ).run P w=.ok x w':=by
 cases ro with
 |none=>exact h
 |some l =>
  by_cases hd:∃c,o.op=.defer c
  ·obtain ⟨c,hd⟩:=hd;exfalso;unfold execOp at h;simp only[hd,Sem.run_bind] at h;cases hr:(resolve ρ c o.type).run P w with
   |ok d w1 =>
    rw[hr] at h;simp only[Result.andThen_ok,Sem.run_pure,Result.ok.injEq] at h;exact hx _ h.1.symm
   |halt hh w1=>rw[hr] at h;cases h
  ·rw[Oper.semAt_some l ρ o (fun c hc=>hd ⟨c,hc⟩)];exact h
variable {ro:Option Nat}
theorem qu {P:Program} {o:Oper} {cv:Value} {w':World} {next:Act->World->Prop} {Q:Exit->Act->World->Prop} (h:(execOp a.eval o).run P w=.ok (.value cv) w') (hn:next (a.put o.dst cv) w'):o.wpIn (Fr ro) 0 P a w next Q:=by
 refine⟨fun _ _=>trivial,?_⟩;show o.uponIn (Fr ro) 0 P a next Q ((o.semAt ro a.eval).run P w);rw[u9 h (by simp)];exact hn
theorem Nc {P:Program} {o:Oper} {w':World} {next:Act->World->Prop} {Q:Exit->Act->World->Prop} (h:(execOp a.eval o).run P w=.ok .skip w') (hn:next (a.put o.dst Go.undef) w'):o.wpIn (Fr ro) 0 P a w next Q:=by
 refine⟨fun _ _=>trivial,?_⟩;show o.uponIn (Fr ro) 0 P a next Q ((o.semAt ro a.eval).run P w);rw[u9 h (by simp)];exact hn
theorem U6 {P:Program} {o:Oper} {f:FuncId} {vs:Array Value} {next:Act->World->Prop} {Q:Exit->Act->World->Prop} (h:(execOp a.eval o).run P w=.ok (.enter f vs) w) (hc:Calls P f vs w (fun e w'=>∃cv,e=.returned cv/\next (a.put o.dst cv) w')):o.wpIn (Fr ro) 0 P a w next Q:=by
 refine⟨fun _ _=>trivial,?_⟩;show o.uponIn (Fr ro) 0 P a next Q ((o.semAt ro a.eval).run P w);rw[u9 h (by simp),Oper.uponIn_enter];refine⟨fun h=>(by cases h),?_⟩;have h1:CallsIn Fence.wide (0-1) P f vs w (fun e w'=>∃cv,e=.returned cv/\next (a.put o.dst cv) w'):=callsIn_wide.2 hc;refine CallsIn.mono (F:=Fr ro) h1 fun e w' he=>?_
 obtain ⟨cv,rfl,he⟩:=he;exact he
theorem qa {P:Program} {s:Sem Value} {cv:Value} {w':World} (h:s.run P w=.ok cv w'):((do pure (.value (<- s)):Sem Next)).run P w=.ok (.value cv) w':=by simp[h]
theorem Sw (hs:Sat ds n μ0 ρ0 w0 ρ μ σ a w) (o:Option Operand):RvQ ρ (some μ) (o.map (ev σ)) (o.map a.eval):=by
 cases o with
 |none=>exact .inl ⟨rfl,rfl⟩
 |some x=>exact .inr ⟨_,_,rfl,rfl,hs.eval x⟩
theorem jc {l l':List AV} {vs vs':Array Value} (h:Rvs ρ (some μ) l vs) (h':Rvs ρ (some μ) l' vs'):Rvs ρ (some μ) (l++l') (vs++vs'):=by
 refine⟨by simp[h.1,h'.1],fun j=>?_⟩;have e1:(l++l').getD j .undef=if j<l.length then l.getD j .undef else l'.getD (j-l.length) .undef:=by
  simp only[List.getD,List.getElem?_append];split<;>rfl
 have e2:(vs++vs').getD j Go.undef=if j<vs.size then vs.getD j Go.undef else vs'.getD (j-vs.size) Go.undef:=by
  simp only[Array.getD_eq_getD_getElem?,Array.getElem?_append];split<;>rfl
 rw[e1,e2,h.1];by_cases hj:j<vs.size
 ·rw[if_pos hj,if_pos hj];exact h.2 _
 ·rw[if_neg hj,if_neg hj];exact h'.2 _
theorem vv (hs:Sat ds n μ0 ρ0 w0 ρ μ σ a w) (l:Array Operand):Rvs ρ (some μ) (l.toList.map (ev σ)) (l.map a.eval):=YN (fun x=>hs.eval x) l
theorem Nk {v:AV} {cv:Value} (h:Rv ρ (some μ) v cv):Rvs ρ (some μ) [v] #[cv]:=⟨rfl,fun j=>by cases j with | zero=>exact h | succ j=>exact .undef ..⟩
theorem Ps {P:Program} {op:BinOp} {t:TypeId} {x y:AV} {p q:Operand} {cx cy:Value} {e:Bool} {es:List AV} (h:XY P op t x y=some (e,es)) (hx:Rv ρ (some μ) x cx) (hy:Rv ρ (some μ) y cy) (w:World) :
  ∃b:Bool,(es≠[]->b=!e)/\(do eqGuard op t p q cx cy;binOp op t cx cy:Sem Value).run P w=.ok (.bool b) w:=by
 unfold XY at h;split at h
 ·rename_i el e' hu he;have nil:∀cv,Rv ρ (some μ) (.slc 0 []) cv->cv=.slice none 0 0:=by
   intro cv hv;generalize hg:AV.slc 0 []=g at hv;cases hv with
   |nilslc=>rfl
   |eslc _ _ _ hm=>cases hg;exact absurd rfl hm
   |slc _ m es b o cap k c hm=>cases hg;exact absurd rfl hm
   |_=>cases hg
  have some':∀m es' cv,Rv ρ (some μ) (.slc m es') cv->(cv=.slice none 0 0/\es'=[])\/∃p l cap,cv=.slice (some p) l cap:=by
   intro m es' cv hv;generalize hg:AV.slc m es'=g at hv;cases hv with
   |nilslc=>cases hg;exact .inl ⟨rfl,rfl⟩
   |eslc=>exact .inr ⟨_,_,_,rfl⟩
   |slc=>exact .inr ⟨_,_,_,rfl⟩
   |_=>cases hg
  have run:∀(c1 c2:Value) (b:Bool),(∀D,12<=D->(Op.equalIn D t c1 c2).run P w=.ok b w)->(∃p l cap,c1=.slice p l cap)->(do eqGuard op t p q c1 c2;binOp op t c1 c2:Sem Value).run P w=.ok (.bool (if e' then b else !b)) w:=by
   rintro c1 c2 b hb ⟨p',l,cap,rfl⟩;rw[Sem.run_bind,qC w (by simp) (by simp)];exact wR op t _ _ w e' b he hb (by simp)
  have eqs:∀(c1 c2:Value) (b:Bool),((c1=.slice none 0 0/\c2=.slice none 0 0/\b=true)\/(b=false/\((c1=.slice none 0 0/\∃p l cap,c2=.slice (some p) l cap)\/(c2=.slice none 0 0/\∃p l cap,c1=.slice (some p) l cap)))) ->
    ∀D,12<=D->(Op.equalIn D t c1 c2).run P w=.ok b w:=by
   intro c1 c2 b hc D hD;obtain ⟨D,rfl⟩:∃D',D=D'+1:=⟨D-1,by omega⟩;rcases hc with ⟨rfl,rfl,rfl⟩ | ⟨rfl,⟨rfl,p',l,cap,rfl⟩ | ⟨rfl,p',l,cap,rfl⟩⟩<;>simp[Op.equalIn,run_underlying hu]
  split at h
  ·split at h
   ·cases h
   simp only[Option.some.injEq,Prod.mk.injEq] at h;obtain ⟨rfl,rfl⟩:=h;have h2:=nil _ hy;rcases some' _ _ _ hx with ⟨h1,he0⟩ | ⟨p',l,cap,h1⟩
   ·exact⟨_,fun hne=>absurd he0 hne,run cx cy true (eqs _ _ _ (.inl ⟨h1,h2,rfl⟩)) ⟨_,_,_,h1⟩⟩
   ·refine⟨_,fun _=>?_,run cx cy false (eqs _ _ _ (.inr ⟨rfl,.inr ⟨h2,_,_,_,h1⟩⟩)) ⟨_,_,_,h1⟩⟩;cases e'<;>rfl
  ·split at h
   ·cases h
   simp only[Option.some.injEq,Prod.mk.injEq] at h;obtain ⟨rfl,rfl⟩:=h;have h2:=nil _ hx;rcases some' _ _ _ hy with ⟨h1,he0⟩ | ⟨p',l,cap,h1⟩
   ·exact⟨_,fun hne=>absurd he0 hne,run cx cy true (eqs _ _ _ (.inl ⟨h2,h1,rfl⟩)) ⟨_,_,_,h2⟩⟩
   ·refine⟨_,fun _=>?_,run cx cy false (eqs _ _ _ (.inr ⟨rfl,.inl ⟨h2,_,_,_,h1⟩⟩)) ⟨_,_,_,h2⟩⟩;cases e'<;>rfl
  ·cases h
 ·cases h
theorem Hq {P:Program} {o:Oper} {f:FuncId} {args:List AV} {vs:Array Value} {K:St->Prop} {Q:Exit->Act->World->Prop} (hs:Sat ds n μ0 ρ0 w0 ρ μ σ a w) (hargs:Rvs ρ (some μ) args vs)
  (h:jG P (yj P frs il) n f args o.dst σ K) (hex:∀r,(callFunc f vs).run P w=r->(execOp a.eval o).run P w=r):o.wpIn (Fr ro) 0 P a w (At ds n μ0 ρ0 w0 K) Q:=by
 obtain ⟨h1,h2⟩:=Oc hs hargs h;refine U6 (hex _ h1) (h2.mono fun e w' he=>?_);obtain ⟨cv,rfl,ρ',σ',h3,h4⟩:=he;exact⟨cv,rfl,ρ',μ,σ',h3,h4⟩
theorem JV {P:Program} {o:Oper} {f:FuncId} {args:List AV} {vs:Array Value} {K:St->Prop} {Q:Exit->Act->World->Prop} (hs:Sat ds n μ0 ρ0 w0 ρ μ σ a w) (hargs:Rvs ρ (some μ) args vs)
  (h:Y3 P (yj P frs il) n f args o.dst σ K) (hex:∀r,(callFunc f vs).run P w=r->(execOp a.eval o).run P w=r):o.wpIn (Fr ro) 0 P a w (At ds n μ0 ρ0 w0 K) Q:=by
 obtain ⟨h1,h2⟩:=Od hs hargs h;refine U6 (hex _ h1) (h2.mono fun e w' he=>?_);obtain ⟨cv,rfl,ρ',μ',σ',h3,h4⟩:=he;exact⟨cv,rfl,ρ',μ',σ',h3,h4⟩
def addE:Array Value->Sem Value:=fun args=>do
 let (x,y,c) <- Extern.MathBitsCarry.three "Add64" args
 pure (Extern.MathBitsCarry.pair ((x+y+c) % Extern.MathBitsCarry.m64) ((x+y+c) / Extern.MathBitsCarry.m64))
def subE:Array Value->Sem Value:=fun args=>do
 let (x,y,b) <- Extern.MathBitsCarry.three "Sub64" args
 pure (Extern.MathBitsCarry.pair ((x+Extern.MathBitsCarry.m64-y-b) % Extern.MathBitsCarry.m64) (if x<y+b then 1 else 0))
theorem Hh {P:Program} (x y c:Int) (hc0:0<=c) (hc:c<=1) (w:World) :
  ∃cv,(subE #[.int .u64 x,.int .u64 y,.int .u64 c]).run P w=.ok cv w/\∀ρ lv,Rv ρ lv (SC false x y c) cv:=by
 have:c=0\/c=1:=by omega
 rcases this with rfl | rfl
 ·exact⟨_,rfl,fun ρ lv=>.tup _ _ _ rfl fun j=>by
   match j with
   |0=>exact .int ..
   |1=>exact .int ..
   |j+2=>exact .undef ..⟩
 ·exact⟨_,rfl,fun ρ lv=>.tup _ _ _ rfl fun j=>by
   match j with
   |0=>exact .int ..
   |1=>exact .int ..
   |j+2=>exact .undef ..⟩
theorem JY {P:Program} (x y c:Int) (hc0:0<=c) (hc:c<=1) (w:World) :
  ∃cv,(addE #[.int .u64 x,.int .u64 y,.int .u64 c]).run P w=.ok cv w/\∀ρ lv,Rv ρ lv (SC true x y c) cv:=by
 have:c=0\/c=1:=by omega
 rcases this with rfl | rfl
 ·exact⟨_,rfl,fun ρ lv=>.tup _ _ _ rfl fun j=>by
   match j with
   |0=>exact .int ..
   |1=>exact .int ..
   |j+2=>exact .undef ..⟩
 ·exact⟨_,rfl,fun ρ lv=>.tup _ _ _ rfl fun j=>by
   match j with
   |0=>exact .int ..
   |1=>exact .int ..
   |j+2=>exact .undef ..⟩
theorem Mo {P:Program} {f:FuncId} {b:Bool} (h:XG P f=some b) (x y c:Int) (hc0:0<=c) (hc:c<=1) (w:World) :
  ∃cv,(callFunc f #[.int .u64 x,.int .u64 y,.int .u64 c]).run P w=.ok (.value cv) w/\∀ρ lv,Rv ρ lv (SC b x y c) cv:=by
 unfold XG at h;split at h
 case h_2=>cases h
 rename_i fn hf;split at h
 case isFalse=>cases h
 rename_i hb;rw[Bool.and_eq_true,beq_iff_eq] at hb;split at h
 ·rename_i hn;cases h;rw[beq_iff_eq] at hn;have hnext:Extern.findNext fn=none:=by
   unfold Extern.findNext;rw[hn,hb.2];have h1:Extern.allNextRows.lookup "math/bits.Add64"=none:=by kernel_rfl
   have h2:Extern.allNextRows.lookup ""=none:=by kernel_rfl
   simp only[h1,h2];rfl
  have he:Extern.find fn=some addE:=by
   unfold Extern.find;rw[hn,hb.2];have h1:Extern.allGenericRows.lookup "math/bits.Add64"=none:=by kernel_rfl
   have h2:Extern.allTypedRows.lookup "math/bits.Add64"=none:=by kernel_rfl
   have h3:Extern.allRows.lookup "math/bits.Add64"=some addE:=by kernel_rfl
   simp only[h1,h2,h3];rfl
  obtain ⟨cv,h1,h2⟩:=JY (P:=P) x y c hc0 hc w;exact⟨cv,by rw[run_callFunc_extern hf (by rw[hn];rfl) hb.1 hnext he,h1];rfl,h2⟩
 ·split at h
  ·rename_i hn;cases h;rw[beq_iff_eq] at hn;have hnext:Extern.findNext fn=none:=by
    unfold Extern.findNext;rw[hn,hb.2];have h1:Extern.allNextRows.lookup "math/bits.Sub64"=none:=by kernel_rfl
    have h2:Extern.allNextRows.lookup ""=none:=by kernel_rfl
    simp only[h1,h2];rfl
   have he:Extern.find fn=some subE:=by
    unfold Extern.find;rw[hn,hb.2];have h1:Extern.allGenericRows.lookup "math/bits.Sub64"=none:=by kernel_rfl
    have h2:Extern.allTypedRows.lookup "math/bits.Sub64"=none:=by kernel_rfl
    have h3:Extern.allRows.lookup "math/bits.Sub64"=some subE:=by kernel_rfl
    simp only[h1,h2,h3];rfl
   obtain ⟨cv,h1,h2⟩:=Hh (P:=P) x y c hc0 hc w;exact⟨cv,by rw[run_callFunc_extern hf (by rw[hn];rfl) hb.1 hnext he,h1];rfl,h2⟩
  ·cases h
theorem JW {P:Program} {o:Oper} {f:FuncId} {args:List AV} {vs:Array Value} {K:St->Prop} {Q:Exit->Act->World->Prop} (hs:Sat ds n μ0 ρ0 w0 ρ μ σ a w) (hargs:Rvs ρ (some μ) args vs)
  (h:ui P (yj P frs il) n f args o.dst σ K) (hex:∀r,(callFunc f vs).run P w=r->(execOp a.eval o).run P w=r):o.wpIn (Fr ro) 0 P a w (At ds n μ0 ρ0 w0 K) Q:=by
 unfold ui at h;split at h
 ·rename_i b hc;split at h
  ·rename_i x y c;split at h
   ·rename_i x' l1 y' l2 c' l3 h1 h2 h3;obtain ⟨hl,hr⟩:=hargs;have e1:=yA h1 (hr 0);have e2:=yA h2 (hr 1);have e3:=yA h3 (hr 2);have hvs:vs=#[.int .u64 x',.int .u64 y',.int .u64 c']:=by
     match vs,hl with
     |⟨[v0,v1,v2]⟩,_ =>
      have e1:v0=_:=e1;have e2:v1=_:=e2;have e3:v2=_:=e3;rw[e1,e2,e3]
    subst hvs;obtain ⟨cv,g1,g2⟩:=Mo hc x' y' c' h.1.1 h.1.2 w;exact qu (hex _ g1) ⟨ρ,μ,_,hs.put (g2 _ _),h.2⟩
   ·exact h.elim
  ·exact h.elim
 ·exact JV hs hargs h hex
def kG (P:Program) (il:vZ):Prop:=∀(f:FuncId) (args:List AV) (σ:St) (K:AV->St->Prop),il f args σ K->∀ {ds:List Deferred} {n:Nat} {μ0:Lay} {ρ0:RO} {w0:World} {ρ:RO} {μ:Lay} {a:Act} {w:World} {vs:Array Value},
 Sat ds n μ0 ρ0 w0 ρ μ σ a w->Rvs ρ (some μ) args vs->(callFunc f vs).run P w=.ok (.enter f vs) w /\
  Calls P f vs w (fun e w'=>∃cv,e=.returned cv/\∃ρ' v σ',K v σ'/\(qA n σ.bx σ'.bx=true->(AV.refs v).all (qh σ'.bx)=true->∃μ',Rv ρ' (some μ') v cv/\Sat ds n μ0 ρ0 w0 ρ' μ' σ' a w'))
theorem U5 {P:Program} (hil:kG P il) {o:Oper} {f:FuncId} {args:List AV} {vs:Array Value} {K:St->Prop} {Q:Exit->Act->World->Prop} (hs:Sat ds n μ0 ρ0 w0 ρ μ σ a w) (hargs:Rvs ρ (some μ) args vs)
  (h:vR P (yj P frs il) n f args o.dst σ K) (hex:∀r,(callFunc f vs).run P w=r->(execOp a.eval o).run P w=r):o.wpIn (Fr ro) 0 P a w (At ds n μ0 ρ0 w0 K) Q:=by
 unfold vR at h;split at h
 ·obtain ⟨h1,h2⟩:=hil f args σ _ h hs hargs;refine U6 (hex _ h1) (h2.mono fun e w' he=>?_);obtain ⟨cv,rfl,ρ',v,σ',h3,h4⟩:=he;split at h3
  ·rename_i hb;rw[Bool.and_eq_true] at hb;obtain ⟨μ',h5,h6⟩:=h4 hb.1 hb.2;exact⟨cv,rfl,ρ',μ',_,h6.put h5,h3⟩
  ·exact h3.elim
 ·exact Hq hs hargs h hex
theorem S3 {P:Program} {t:TypeId} {name:String} {g:FuncId} (h:S2 P t name=some g) (v:Value) (w:World) (d:Nat):(method (d+1) t v name).run P w=.ok (g,v) w:=by
 unfold S2 at h;split at h
 ·rename_i i u hi hu;split at h
  ·rename_i m hm;split at h
   ·rename_i hp;have hpl:m.path.toList=[]:=by
     have:=Array.isEmpty_iff.1 hp;rw[this]
    have hget:∀t,(Place.get t (.val v)).run P w=.ok v w:=fun _=>rfl
    have base:∀ptr,m.func=some (g,ptr)->(receiverAt t (.val v) ptr (if m.path.isEmpty then some ((name.splitOn ".").getLastD name) else none)).run P w=.ok v w->(method (d+1) t v name).run P w=.ok (g,v) w:=by
     intro ptr hf hr;simp only[method,typeInfo,Sem.run_bind,run_program,Result.andThen_ok,hi,Sem.run_pure,hm,hpl,follow,hf];rw[hr];rfl
    have hg:∀(u':TypeDesc) (ptr:Bool),u'=u->m.func=some (g,ptr)->(∀el,u'=.pointer el->ptr=true)->((∀el,u'≠.pointer el)->ptr=false)->(method (d+1) t v name).run P w=.ok (g,v) w:=by
     rintro u' ptr rfl hf h1 h2;refine base ptr hf ?_;cases u' with
     |pointer el=>rw[h1 el rfl];simp only[receiverAt,Sem.run_bind,run_underlying hu,Result.andThen_ok];exact hget _
     |_=>rw[h2 (by simp)];simp only[receiverAt,Sem.run_bind,run_underlying hu,Result.andThen_ok];exact hget _
    cases hf:m.func with
    |none=>simp[hf] at h
    |some fp =>
     obtain ⟨f,ptr⟩:=fp;rw[hf] at h;cases ptr<;>cases u<;>simp only[Option.some.injEq,reduceCtorEq] at h<;>subst h<;>exact hg _ _ rfl hf (by simp) (by simp)
   ·cases h
  ·cases h
 ·cases h
theorem YS {P:Program} (hil:kG P il) {o:Oper} {K:St->Prop} {Q:Exit->Act->World->Prop} (hs:Sat ds n μ0 ρ0 w0 ρ μ σ a w) (h:aop P (yj P frs il) n o σ K):o.wpIn (Fr ro) 0 P a w (At ds n μ0 ρ0 w0 K) Q:=by
 have pop:∀op,op=o.op->(match jC P (ev σ) op with | some v=>K (σ.put o.dst v) | none=>False)->o.wpIn (Fr ro) 0 P a w (At ds n μ0 ρ0 w0 K) Q:=by
  intro op hop h;split at h
  ·rename_i v hv;rw[hop] at hv;obtain ⟨cv,h1,h2⟩:=Sa (fun x=>hs.eval x) o hv w;exact qu h1 ⟨ρ,μ,_,hs.put h2,h⟩
  ·exact h.elim
 obtain ⟨dst,op,type,pos,after,guard⟩:=o;unfold aop at h;cases op with
 |alloc t =>
  simp only at h;split at h
  ·rename_i d z hz;obtain ⟨cv,w',μ',σ',h1,h2,h3⟩:=P3 hs hz h;exact qu (qa h1) ⟨ρ,μ',σ',h2,h3⟩
  ·exact h.elim
 |box t x =>
  simp only at h;split at h
  ·rename_i d;split at h
   ·rename_i hsol;obtain ⟨cv,w',μ',σ',h1,h2,h3⟩:=L4 (P:=P) hs (hs.eval x) hsol h;exact qu (qa h1) ⟨ρ,μ',σ',h2,h3⟩
   ·exact h.elim
  ·exact h.elim
 |buildSlice t len ps =>
  simp only at h;split at h
  ·rename_i e hu;split at h
   ·rename_i z hz;split at h
    ·rename_i hc;obtain ⟨c1,c2,c3,c4,c5⟩:=hc;split at h
     ·rename_i out hf;split at h
      ·rename_i hto;simp only[Bool.and_eq_true] at hto;split at h
       ·rename_i d hd;have hd:dst=some d:=by
         cases dst with
         |none=>cases hd
         |some d'=>simp only[OS] at hd;split at hd<;>simp_all
        subst hd;obtain ⟨cv,w',μ',σ',h1,h2,h3⟩:=XE hs hu hz c1 c2 c3 c4 c5 hf hto.1 hto.2 h;exact qu (qa h1) ⟨ρ,μ',σ',h2,h3⟩
       ·obtain ⟨cv,w',ρ',h1,h2,h3⟩:=Wr hs hu hz c1 c2 c3 c4 c5 hf hto.1 hto.2;exact qu (qa h1) ⟨ρ',μ,_,h2.put h3,h⟩
      ·exact h.elim
     ·exact h.elim
    ·exact h.elim
   ·exact h.elim
  ·exact h.elim
 |convert s d x =>
  simp only at h;split at h
  ·rename_i v hb;obtain ⟨cv,w',ρ',h1,h2,h3⟩:=SH (P:=P) hs (hs.eval x) hb;exact qu (qa h1) ⟨ρ',μ,_,h2.put h3,h⟩
  ·exact pop _ rfl h
 |makeMap t r =>
  cases r with
  |none =>
   simp only at h;split at h
   ·obtain ⟨cv,w',μ',σ',h1,h2,h3⟩:=OL (P:=P) hs h;exact qu (qa h1) ⟨ρ,μ',σ',h2,h3⟩
   ·exact h.elim
  |some r=>exact pop _ rfl h
 |lookup t x k ok =>
  obtain ⟨v,cv,h1,h2,h3⟩:=SZ hs (hs.eval x) (hs.eval k) h;exact qu (qa h1) ⟨ρ,μ,_,hs.put h2,h3⟩
 |mapUpdate t x k v =>
  obtain ⟨σ',w',h1,h2,h3⟩:=Lb hs (hs.eval x) (hs.eval k) (hs.eval v) h;exact Nc (by simp[execOp,h1]) ⟨ρ,μ,_,h2.put (.tup _ _ #[] rfl (fun j=>.undef ..)),h3⟩
 |load t x =>
  obtain ⟨v,cv,h1,h2,h3⟩:=Uy hs (hs.eval x) h;exact qu (qa h1) ⟨ρ,μ,_,hs.put h2,h3⟩
 |store t x y =>
  obtain ⟨σ',w',h1,h2,h3⟩:=PK (P:=P) hs (hs.eval x) (hs.eval y) h;exact Nc (by simp[execOp,h1]) ⟨ρ,μ,_,h2.put (.tup _ _ #[] rfl (fun j=>.undef ..)),h3⟩
 |indexAddr t x i =>
  obtain ⟨v,cv,h1,h2,h3⟩:=Wu (hs.eval x) (hs.eval i) h w;exact qu (qa h1) ⟨ρ,μ,_,hs.put h2,h3⟩
 |index t x i =>
  obtain ⟨v,cv,h1,h2,h3⟩:=Q8 (hs.eval x) (hs.eval i) h w;exact qu (qa h1) ⟨ρ,μ,_,hs.put h2,h3⟩
 |slice t x lo hi mx =>
  obtain ⟨v,cv,h1,h2,h3⟩:=PE hs (hs.eval x) (Sw hs lo) (Sw hs hi) (Sw hs mx) h;exact qu (qa h1) ⟨ρ,μ,_,hs.put h2,h3⟩
 |makeSlice t l c =>
  simp only at h;split at h
  ·rename_i e k1 l1 p1 k2 c1 p2 d hu hl hc;split at h
   ·rename_i z hz;split at h
    ·rename_i hcond;obtain ⟨⟨g1,g2,g3⟩,hK⟩:=h;obtain ⟨cv,w',μ',σ',h1,h2,h3⟩:=UA hs hu (hs.eval l) (hs.eval c) hl hc hz hcond.2.2 g1 g2 g3 hcond.1 hcond.2.1 hK;exact qu (qa h1) ⟨ρ,μ',σ',h2,h3⟩
    ·exact h.elim
   ·exact h.elim
  ·exact h.elim
 |binOp op t x y yt =>
  cases op with
  |quo=>obtain ⟨v,cv,h1,h2,h3⟩:=uR (t:=t) (p:=x) (q:=y) (hs.eval x) (hs.eval y) h w;exact qu (qa h1) ⟨ρ,μ,_,hs.put h2,h3⟩
  |rem=>obtain ⟨v,cv,h1,h2,h3⟩:=uR (t:=t) (p:=x) (q:=y) (hs.eval x) (hs.eval y) h w;exact qu (qa h1) ⟨ρ,μ,_,hs.put h2,h3⟩
  |shl=>obtain ⟨v,cv,h1,h2,h3⟩:=uR (t:=t) (p:=x) (q:=y) (hs.eval x) (hs.eval y) h w;exact qu (qa h1) ⟨ρ,μ,_,hs.put h2,h3⟩
  |shr=>obtain ⟨v,cv,h1,h2,h3⟩:=uR (t:=t) (p:=x) (q:=y) (hs.eval x) (hs.eval y) h w;exact qu (qa h1) ⟨ρ,μ,_,hs.put h2,h3⟩
  |_ =>
   simp only at h;split at h
   ·rename_i e es hn;obtain ⟨b,h1,h2⟩:=Ps (p:=x) (q:=y) hn (hs.eval x) (hs.eval y) w;exact qu (qa h2) ⟨ρ,μ,_,hs.put (.bool _ b),h b h1⟩
   ·exact pop _ rfl h
 |call c =>
  obtain ⟨callee,args,ats⟩:=c;cases callee with
  |value f =>
   have clos:∀g first caps,ev σ f=.fn g first caps->vR P (yj P frs il) n g (first++(args.toList.map (ev σ)++caps)) dst σ K->(⟨dst,.call ⟨.value f,args,ats⟩,type,pos,after,guard⟩:Oper).wpIn (Fr ro) 0 P a w (At ds n μ0 ρ0 w0 K) Q:=by
    intro g first caps hf h;have hv:=hs.eval f;rw[hf] at hv;generalize hcf:a.eval f=cf at hv;cases hv with
    |fn _ _ _ _ vf vc hl1 hl2 hh1 hh2 =>
     refine U5 hil hs (vs:=vf++(args.map a.eval++vc)) (jc ⟨hl1,hh1⟩ (jc (vv hs args) ⟨hl2,hh2⟩)) h fun r hr=>?_
     simp only[execOp,resolve,Deferred.ofValue,hcf,Sem.run_bind,Sem.run_pure,Result.andThen_ok,invoke];rw[<- hr,Array.append_assoc]
   cases f with
   |func g =>
    have hrun:∀r,(callFunc g (args.map a.eval)).run P w=r->(execOp a.eval (⟨dst,.call ⟨.value (.func g),args,ats⟩,type,pos,after,guard⟩:Oper)).run P w=r:=fun r hr=>by
     simp only[execOp,resolve,Deferred.ofValue,Act.eval,Sem.run_bind,Sem.run_pure,Result.andThen_ok,invoke];rw[<- hr];simp
    simp only at h;split at h
    ·exact JW hs (vs:=args.map a.eval) (vv hs args) h hrun
    ·exact U5 hil hs (vs:=args.map a.eval) (vv hs args) h hrun
   |tmp t =>
    simp only at h;split at h
    ·rename_i g first caps hf;exact clos g first caps hf h
    ·exact h.elim
   |const c =>
    simp only at h;split at h
    ·rename_i g first caps hf;exact clos g first caps hf h
    ·exact h.elim
   |global g =>
    simp only[ev] at h;cases hgg:Up g<;>simp only[hgg] at h
  |invoke r name =>
   simp only at h;split at h
   ·rename_i t v hr;split at h
    ·rename_i g hg;have hv:=hs.eval r;rw[hr] at hv;generalize hcf:a.eval r=cf at hv;cases hv with
     |iface _ _ _ cv hcv =>
      refine U5 hil hs (vs:=#[cv]++args.map a.eval) (jc (Nk hcv) (vv hs args)) h fun r' hr'=>?_
      simp only[execOp,resolve,hcf,Sem.run_bind,Sem.run_pure,Result.andThen_ok,invoke];have e1:(#[Value.iface t cv]++Array.map a.eval args)[0]? = some (Value.iface t cv):=by
       rw[Array.getElem?_append_left (by show 0<1;omega)];rfl
      have e2:(#[Value.iface t cv]++Array.map a.eval args).extract 1 (#[Value.iface t cv]++Array.map a.eval args).size=Array.map a.eval args:=by
       apply Array.ext';simp;rw[List.take_of_length_le (by simp)]
      rw[e1];simp only[callMethod,e2,Sem.run_bind,run_program,Result.andThen_ok];have hm:=S3 hg cv w (P.types.size+Made.depth-1);have hd:P.types.size+Made.depth-1+1=P.types.size+Made.depth:=by
       have:0<Made.depth:=by decide
       omega
      rw[hd] at hm;rw[hm];simp only[Result.andThen_ok];exact hr'
    ·exact h.elim
   ·exact h.elim
  |builtin b =>
   cases b with
   |append =>
    simp only at h;split at h
    ·rename_i s x d hsx;obtain ⟨y,z,rfl,rfl,rfl⟩:∃y z,args=#[y,z]/\ev σ y=s/\ev σ z=x:=by
      obtain ⟨l⟩:=args;match l with
      |[y,z]=>simp at hsx;exact⟨y,z,rfl,hsx.1,hsx.2⟩
      |[]=>simp at hsx
      |[_]=>simp at hsx
      |_::_::_::_=>simp at hsx
     obtain ⟨cv,w',μ',σ',h1,h2,h3⟩:=Sat.append hs type (hs.eval y) (hs.eval z) h;refine qu ?_ ⟨ρ,μ',σ',h2,h3⟩;have:ats.toList.toArray=ats:=by simp
     rw[this] at h1;simp[execOp,resolve,invoke,builtin,h1]
    ·exact h.elim
   |_=>exact pop _ rfl h
 |_=>exact pop _ rfl h
end
section
variable {frs:Ways} {il:vZ} {ds:List Deferred} {n:Nat} {μ0:Lay} {ρ0:RO} {w0:World} {ρ:RO} {μ:Lay} {σ:St} {a:Act} {w:World}
theorem Sat.zx (hs:Sat ds n μ0 ρ0 w0 ρ μ σ a w) {d:Nat} {v:AV} (hv:Rv ρ (some μ) v (a.tmps.getD d Go.undef)):Sat ds n μ0 ρ0 w0 ρ μ (σ.put (some d) v) a w :=
 {hs with
  sz:=by simp[St.put,hs.sz]
  sl:=fun t=>by
   simp only[St.put];rw[qm];split
   ·rename_i h;rw[h.1];exact hv
   ·exact hs.sl t }
theorem Sat.clean (hs:Sat ds n μ0 ρ0 w0 ρ μ σ a w) (keep:List Nat):Sat ds n μ0 ρ0 w0 ρ μ (clean keep σ) a w :=
 {hs with
  sz:=by simp[Go.Proofs.YtkojpnkknehhmaaGreatDoor.clean,uG,hs.sz]
  sl:=fun t=>by
   simp only[Go.Proofs.YtkojpnkknehhmaaGreatDoor.clean,List.getD,xe];have:=hs.sl t;simp only[List.getD] at this;cases hg:σ.sl[t]? with
   |none=>exact .undef ..
   |some v =>
    rw[hg] at this;simp only[Option.map_some,Option.getD_some] at this ⊢;split
    ·exact this
    ·exact .undef .. }
variable {ro:Option Nat}
theorem YL {P:Program} {ops:Array Oper} {Q:Exit->Act->World->Prop} {i:Nat} {rest:List Nat} {o:Oper} (ho:ops[i]? = some o)
  (h:(Region.wanted o (yielded ops a.tmps)=true/\o.wpIn (Fr ro) 0 P a w (wpOpsIn (Fr ro) 0 P ops Q rest) Q)\/(Region.wanted o (yielded ops a.tmps)=false/\wpOpsIn (Fr ro) 0 P ops Q rest (a.put o.dst Go.undef) w)) :
  wpOpsIn (Fr ro) 0 P ops Q (i::rest) a w:=by
 simp only[wpOpsIn,ho];rcases h with ⟨h1,h2⟩ | ⟨h1,h2⟩
 ·rw[if_pos h1];exact h2
 ·rw[if_neg (by simp[h1])];exact⟨fun _ _=>trivial,h2⟩
theorem YM {ops:Array Oper} {j d:Nat} (hd:(qi ops.toList)[j]? = some (some d)) (hs:Sat ds n μ0 ρ0 w0 ρ μ σ a w) :
  (∀b,(σ.sl.getD d .undef).zN=some b->yielded ops a.tmps j=some b/\a.tmps.getD d Go.undef=.bool b)/\(σ.sl.getD d .undef=.tup []->yielded ops a.tmps j=none):=by
 have hdst:(ops[j]?).bind (·.dst)=some d:=by
  simp only[qi,List.getElem?_map,Array.getElem?_toList] at hd;cases ho:ops[j]? with
  |none=>simp[ho] at hd
  |some o=>simpa[ho] using hd
 have hy:yielded ops a.tmps j=match a.tmps[d]? with | some (.bool b)=>some b | _=>none:=by
  unfold yielded;rw[hdst];rfl
 constructor
 ·intro b hb;have hv:=wj hb (hs.sl d);refine⟨?_,hv⟩;rw[hy];rcases Nat.lt_or_ge d a.tmps.size with hl | hl
  ·have:a.tmps[d]? = some (.bool b):=by
    rw[Array.getD,dif_pos hl] at hv;rw[Array.getElem?_eq_getElem hl];simpa using hv
   rw[this]
  ·rw[Array.getD,dif_neg (by omega)] at hv;cases hv
 ·intro ht;have hv:=hs.sl d;rw[ht] at hv;rw[hy];rcases Nat.lt_or_ge d a.tmps.size with hl | hl
  ·rw[Array.getD,dif_pos hl] at hv;simp only[Array.getInternal_eq_getElem] at hv;rw[Array.getElem?_eq_getElem hl];generalize a.tmps[d]=u at hv;cases hv;rfl
  ·rw[Array.getElem?_eq_none hl]
theorem Mg {P:Program} (hil:kG P il) {ops:Array Oper} {K:St->Prop} {Q:Exit->Act->World->Prop} (hQ:∀a w,At ds n μ0 ρ0 w0 K a w->Q .normal a w) :
  ∀(l:List Oper) (k:Nat) (ρ:RO) (μ:Lay) (σ:St) (a:Act) (w:World),ops.toList.drop k=l->Sat ds n μ0 ρ0 w0 ρ μ σ a w->w8 P (yj P frs il) n (qi ops.toList) l σ K->wpOpsIn (Fr ro) 0 P ops Q (List.range' k l.length) a w:=by
 intro l;induction l with
 |nil=>intro k ρ μ σ a w _ hs h;exact hQ a w ⟨ρ,μ,σ,hs,h⟩
 |cons o r ih =>
  intro k ρ μ σ a w hd hs h;have ho:ops[k]? = some o:=by
   have:(ops.toList.drop k)[0]? = some o:=by rw[hd];rfl
   simpa using this
  have hr:ops.toList.drop (k+1)=r:=by
   have:(ops.toList.drop k).drop 1=r:=by rw[hd];rfl
   rw[List.drop_drop] at this;rw[<- this,Nat.add_comm]
  have hrest:∀a w,At ds n μ0 ρ0 w0 (fun σ=>w8 P (yj P frs il) n (qi ops.toList) r σ K) a w->wpOpsIn (Fr ro) 0 P ops Q (List.range' (k+1) r.length) a w:=by
   rintro a w ⟨ρ,μ,σ,hs,h⟩;exact ih (k+1) ρ μ σ a w hr hs h
  have hmono:∀σ,Sat ds n μ0 ρ0 w0 ρ μ σ a w->aop P (yj P frs il) n o σ (fun σ=>w8 P (yj P frs il) n (qi ops.toList) r σ K)->o.wpIn (Fr ro) 0 P a w (wpOpsIn (Fr ro) 0 P ops Q (List.range' (k+1) r.length)) Q :=
   fun σ hs h=>Oper.wpIn_mono hrest (YS hil hs h)
  have hskip:∀σ,Sat ds n μ0 ρ0 w0 ρ μ σ a w->w8 P (yj P frs il) n (qi ops.toList) r (σ.put o.dst (.tup [])) K->wpOpsIn (Fr ro) 0 P ops Q (List.range' (k+1) r.length) (a.put o.dst Go.undef) w :=
   fun σ hs h=>ih (k+1) ρ μ _ _ w hr (hs.put (.tup _ _ #[] rfl (fun j=>.undef ..))) h
  rw[List.length_cons,List.range'_succ];refine YL ho ?_;simp only[w8] at h;split at h
  ·rename_i hg;exact .inl ⟨by simp[Region.wanted,hg],hmono σ hs h⟩
  ·rename_i j want hg;split at h
   ·rename_i d hdj;obtain ⟨y1,y2⟩:=YM hdj hs;have hw:∀b,yielded ops a.tmps j=some b->Region.wanted o (yielded ops a.tmps)=(b == want):=by
     intro b hb;simp only[Region.wanted,hg,hb];cases b<;>cases want<;>rfl
    split at h
    ·rename_i ht;obtain ⟨h1,h2⟩:=y1 true (by rw[ht];rfl);split at h
     ·rename_i hwant;exact .inl ⟨by rw[hw _ h1];simp[hwant],hmono σ hs h⟩
     ·rename_i hwant;exact .inr ⟨by rw[hw _ h1];cases want<;>simp_all,hskip σ hs h⟩
    ·rename_i ht;obtain ⟨h1,h2⟩:=y1 false (by rw[ht];rfl);split at h
     ·rename_i hwant;exact .inr ⟨by rw[hw _ h1];cases want<;>simp_all,hskip σ hs h⟩
     ·rename_i hwant;exact .inl ⟨by rw[hw _ h1];cases want<;>simp_all,hmono σ hs h⟩
    ·rename_i b ht;obtain ⟨h1,h2⟩:=y1 b (by rw[ht];rfl);have htrue:b=true->Sat ds n μ0 ρ0 w0 ρ μ (σ.put (some d) .tt) a w:=fun hb=>hs.zx (by rw[h2,hb];exact .tt _)
     have hfalse:b=false->Sat ds n μ0 ρ0 w0 ρ μ (σ.put (some d) .ff) a w:=fun hb=>hs.zx (by rw[h2,hb];exact .ff _)
     split at h
     ·rename_i hwant;cases hb:b with
      |true=>exact .inl ⟨by rw[hw _ h1,hb,hwant];rfl,hmono _ (htrue hb) (h.1 hb)⟩
      |false=>exact .inr ⟨by rw[hw _ h1,hb,hwant];rfl,hskip _ (hfalse hb) (h.2 hb)⟩
     ·rename_i hwant;have hwant:want=false:=by simpa using hwant
      cases hb:b with
      |true=>exact .inr ⟨by rw[hw _ h1,hb,hwant];rfl,hskip _ (htrue hb) (h.1 hb)⟩
      |false=>exact .inl ⟨by rw[hw _ h1,hb,hwant];rfl,hmono _ (hfalse hb) (h.2 hb)⟩
    ·rename_i ht;have h1:=y2 ht;refine .inr ⟨?_,hskip σ hs h⟩;simp only[Region.wanted,hg,h1];cases want<;>rfl
    ·exact h.elim
   ·exact h.elim
end
end Go.Proofs.YtkojpnkknehhmaaGreatDoor

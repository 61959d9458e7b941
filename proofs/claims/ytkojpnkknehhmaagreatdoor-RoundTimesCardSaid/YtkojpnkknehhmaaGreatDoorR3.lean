/- What the evaluator says of an operation that looks at its operands alone holds of the model's operation. '==', and all operations that look at their operands alone. All operations that look at their operands alone. -/
import Derived.Test.YtkojpnkknehhmaaGreatDoorE
namespace Go.Proofs.YtkojpnkknehhmaaGreatDoor
open Go.RowKit
theorem wj {v:AV} {b:Bool} (h:v.zN=some b) {ρ:RO} {μ:Option Lay} {cv:Value} (hv:Rv ρ μ v cv):cv=.bool b:=by
 cases hv<;>simp_all [AV.zN]
theorem yA {v:AV} {k:IntKind} {n:Int} {l:Bool} (h:v.zu=some (k,n,l)) {ρ:RO} {μ:Option Lay} {cv:Value} (hv:Rv ρ μ v cv):cv=.int k n:=by
 cases hv<;>simp_all [AV.zu]
theorem Rv.mkI (ρ:RO) (μ:Option Lay) (k:IntKind) (n:Int) (l:Bool):Rv ρ μ (mkI k n l) (.int k n):=by
 cases l
 ·exact .int μ k n
 ·exact .lit μ k n
theorem Rv.mkB (ρ:RO) (μ:Option Lay) (b l:Bool):Rv ρ μ (mkB b l) (.bool b):=by
 cases l
 ·exact .bool μ b
 ·cases b
  ·exact .ff μ
  ·exact .tt μ
theorem Rv.ofV1 (ρ:RO) (μ:Option Lay) (v:Value):Rv ρ μ (ofV1 v) v:=by
 unfold Go.Proofs.YtkojpnkknehhmaaGreatDoor.ofV1;split
 ·exact .tt μ
 ·exact .ff μ
 ·exact .lit μ _ _
 ·exact .str μ _
 ·exact .nilp μ
 ·exact .nilslc μ 0
 ·exact .nilmap μ
 ·exact .nilfn μ
 ·exact .nilif μ
 ·exact .undef μ _
theorem Rv.ofV (ρ:RO) (μ:Option Lay) (v:Value):Rv ρ μ (ofV v) v:=by
 unfold Go.Proofs.YtkojpnkknehhmaaGreatDoor.ofV;split
 ·rename_i cs;refine .agg μ _ cs (by simp) (fun j=>?_);rcases Nat.lt_or_ge j cs.size with hj | hj
  ·have:(List.map Go.Proofs.YtkojpnkknehhmaaGreatDoor.ofV1 cs.toList).getD j .undef=Go.Proofs.YtkojpnkknehhmaaGreatDoor.ofV1 (cs.getD j Go.undef):=by
    simp[List.getD,Array.getD,hj]
   rw[this];exact Rv.ofV1 ρ μ _
  ·rw[yH (by simpa using hj)];exact .undef _ _
 ·exact Rv.ofV1 ρ μ v
theorem jF {P:Program} {t:TypeId} {z:AV} (h:wz P t=some z) (w:World):∃cz,(zeroValue t).run P w=.ok cz w/\z.zl=true/\z=ofV cz:=by
 unfold wz at h;split at h
 ·rename_i c hc;split at h
  ·rename_i hs;cases h;obtain ⟨i,hi,hz⟩:=Option.bind_eq_some_iff.1 hc;exact⟨c,by simp[zeroValue,typeInfo,hi,hz],hs,rfl⟩
  ·cases h
 ·cases h
theorem qT {v:AV} (h:v.zl=true) {ρ:RO} {μ:Option Lay} {cv:Value} (hv:Rv ρ μ v cv) :
  v.cells.length=cv.cells.size/\∀j,Rv ρ μ (v.cells.getD j .undef) (cv.cells.getD j Go.undef):=by
 have one:∀(u:AV) (c:Value),Rv ρ μ u c->∀j,Rv ρ μ ([u].getD j .undef) ((#[c]:Array Value).getD j Go.undef):=by
  intro u c hc j;cases j with
  |zero=>exact hc
  |succ j=>exact .undef _ _
 cases hv with
 |undef=>simp[AV.zl] at h
 |tup=>simp[AV.zl] at h
 |agg _ cs vs hl hh=>exact⟨hl,hh⟩
 |tt=>exact⟨rfl,one _ _ (.tt _)⟩
 |ff=>exact⟨rfl,one _ _ (.ff _)⟩
 |bool _ b=>exact⟨rfl,one _ _ (.bool _ b)⟩
 |lit _ k n=>exact⟨rfl,one _ _ (.lit _ k n)⟩
 |int _ k n=>exact⟨rfl,one _ _ (.int _ k n)⟩
 |str _ s=>exact⟨rfl,one _ _ (.str _ s)⟩
 |nilp=>exact⟨rfl,one _ _ (.nilp _)⟩
 |eptr _ cs b o off c hc hh=>exact⟨rfl,one _ _ (.eptr _ cs b o off c hc hh)⟩
 |ref m b off=>exact⟨rfl,one _ _ (.ref m b off)⟩
 |nilslc _ m=>exact⟨rfl,one _ _ (.nilslc _ m)⟩
 |eslc _ m a hm=>exact⟨rfl,one _ _ (.eslc _ m a hm)⟩
 |slc _ m es b o cap k c hm hcap h2 hk hc hh=>exact⟨rfl,one _ _ (.slc _ m es b o cap k c hm hcap h2 hk hc hh)⟩
 |aslc m b off len esz ag cap hcap hr=>exact⟨rfl,one _ _ (.aslc m b off len esz ag cap hcap hr)⟩
 |aslc0 m b esz ag a=>exact⟨rfl,one _ _ (.aslc0 m b esz ag a)⟩
 |fn _ f first caps vf vc hf hc h1 h2=>exact⟨rfl,one _ _ (.fn _ f first caps vf vc hf hc h1 h2)⟩
 |nilfn=>exact⟨rfl,one _ _ (.nilfn _)⟩
 |iface _ t v v' hh=>exact⟨rfl,one _ _ (.iface _ t v v' hh)⟩
 |nilif=>exact⟨rfl,one _ _ (.nilif _)⟩
 |map m b=>exact⟨rfl,one _ _ (.map m b)⟩
 |nilmap=>exact⟨rfl,one _ _ (.nilmap _)⟩
 |yld=>exact⟨rfl,one _ _ (.yld _ _)⟩
theorem Pw {v:AV} (h:v.one=true) {ρ:RO} {μ:Option Lay} {cv:Value} (hv:Rv ρ μ v cv):cv.oneCell'=true:=by
 cases hv<;>simp_all [AV.one,Value.oneCell']
theorem uB {P:Program} {t:TypeId} {d:TypeDesc} (h:P.underlying t=some d):∃i,P.info? t=some i:=by
 unfold Program.underlying at h;cases hi:P.info? t with
 |none=>simp[hi] at h
 |some i=>exact⟨i,rfl⟩
theorem yD {P:Program} {t:TypeId} {d:TypeDesc} (h:P.underlying t=some d) (w:World):(sizeOf t).run P w=.ok (P.cellsOf t) w:=by
 obtain ⟨i,hi⟩:=uB h;simp[sizeOf,typeInfo,hi,Program.cellsOf]
theorem O0 {P:Program} {t:TypeId} {d:TypeDesc} (h:P.underlying t=some d) (w:World):∃i,(typeInfo t).run P w=.ok i w/\i.bytes=P.bytesOf t:=by
 obtain ⟨i,hi⟩:=uB h;exact⟨i,by simp[typeInfo,hi],by simp[Program.bytesOf,hi]⟩
theorem vN {P:Program} {t:TypeId} {d:TypeDesc} (h:P.underlying t=some d) (w:World):(isAgg t).run P w=.ok (yf P t) w:=by
 unfold isAgg yf;rw[Sem.run_bind,run_underlying h];cases d<;>simp[h]
def RvC (ρ:RO) (μ:Option Lay) (cs:List AV) (c:Array Value):Prop:=∀j,Rv ρ μ (cs.getD j .undef) (c.getD j Go.undef)
theorem LQ {ρ:RO} {μ:Option Lay} {cs:List AV} {c:Array Value} (h:RvC ρ μ cs c) (hl:cs.length<=c.size) (off n:Nat) (hb:off+n<=cs.length) :
  Rv ρ μ (.agg ((cs.drop off).take n)) (.agg (c.extract off (off+n))):=by
 refine .agg μ _ _ (by simp;omega) (fun j=>?_);rcases Nat.lt_or_ge j n with hj | hj
 ·have h1:((cs.drop off).take n).getD j .undef=cs.getD (off+j) .undef:=by
   simp[List.getD,hj]
  have h2:(c.extract off (off+n)).getD j Go.undef=c.getD (off+j) Go.undef:=by
   have:off+j<c.size:=by omega
   simp only[Array.getD,Array.size_extract];rw[dif_pos (by omega),dif_pos this];simp
  rw[h1,h2];exact h _
 ·rw[yH (by simp;omega)];exact .undef _ _
theorem kP {P:Program} {t:TypeId} {cs:List AV} {off:Nat} {v:AV} (h:kx P t cs off=some v) {ρ:RO} {μ:Option Lay} {c:Array Value} (hc:RvC ρ μ cs c) (hl:cs.length<=c.size) (w:World) :
  ∃cv,(part t c off).run P w=.ok cv w/\Rv ρ μ v cv:=by
 unfold kx at h;have agg:∀d,P.underlying t=some d->yf P t=true->(if off+P.cellsOf t<=cs.length then some (AV.agg ((cs.drop off).take (P.cellsOf t))) else none)=some v ->
   ∃cv,(part t c off).run P w=.ok cv w/\Rv ρ μ v cv:=by
  intro d hd ha h;split at h
  ·rename_i hb;cases h;refine⟨.agg (c.extract off (off+P.cellsOf t)),?_,LQ hc hl _ _ hb⟩;simp[part,vN hd,ha,yD hd]
  ·cases h
 split at h
 ·rename_i fs hu;exact agg _ hu (by simp[yf,hu]) h
 ·rename_i n e hu;exact agg _ hu (by simp[yf,hu]) h
 ·rename_i d hn1 hn2 hu;have ha:yf P t=false:=by
   unfold yf;rw[hu];cases d<;>simp_all
  obtain ⟨hlt,hv⟩:=List.getElem?_eq_some_iff.1 h;have hlt':off<c.size:=by omega
  refine⟨c[off],?_,?_⟩
  ·simp[part,vN hu,ha,hlt']
  ·have:=hc off;simp only[List.getD,h,Option.getD_some,Array.getD,hlt',dif_pos] at this;exact this
 ·cases h
theorem wE {cs:List AV} {off:Nat} {vs:List AV} (h:off+vs.length<=cs.length):(qF cs off vs).length=cs.length:=by
 simp[qF];omega
theorem Yq {cs:List AV} {off:Nat} {vs:List AV} (h:off+vs.length<=cs.length) (j:Nat) :
  (qF cs off vs).getD j .undef=if off<=j/\j<off+vs.length then vs.getD (j-off) .undef else cs.getD j .undef:=by
 unfold qF;simp only[List.getD,List.getElem?_append,List.length_take];have ho:min off cs.length=off:=by omega
 rw[ho];by_cases h1:j<off
 ·rw[if_pos h1,if_neg (by omega),List.getElem?_take,if_pos h1]
 ·rw[if_neg h1];by_cases h2:j<off+vs.length
  ·rw[if_pos (by omega),if_pos (by omega)]
  ·rw[if_neg (by omega),if_neg (by omega),List.getElem?_drop];congr 2;omega
theorem ja (c:Array Value) (j:Nat):c.toList.getD j Go.undef=c.getD j Go.undef:=by
 rw[Array.getD_eq_getD_getElem?];simp[List.getD]
theorem KC (l:List Value) (off:Nat):∀(i:Nat) (c:Array Value),off+i+l.length<=c.size ->
  let r:=(l.zipIdx i).foldl (fun cs (x:Value × Nat)=>cs.setIfInBounds (off+x.2) x.1) c
  r.size=c.size/\∀j,r.getD j Go.undef=if off+i<=j/\j<off+i+l.length then l.getD (j-off-i) Go.undef else c.getD j Go.undef:=by
 induction l with
 |nil=>intro i c h;exact⟨rfl,fun j=>by simp;omega⟩
 |cons x r ih =>
  intro i c h;simp only[List.zipIdx_cons,List.foldl_cons];simp only[List.length_cons] at h;obtain ⟨h1,h2⟩:=ih (i+1) (c.setIfInBounds (off+i) x) (by simp;omega);refine⟨by rw[h1];simp,fun j=>?_⟩;rw[h2 j];by_cases hj:off+(i+1)<=j/\j<off+(i+1)+r.length
  ·rw[if_pos hj,if_pos (by simp;omega)];have:j-off-i=(j-off-(i+1))+1:=by omega
   rw[this];rfl
  ·rw[if_neg hj];by_cases he:j=off+i
   ·subst he;rw[if_pos (by simp)];have hs:off+i<c.size:=by omega
    simp[Array.getD,hs]
   ·rw[if_neg (by simp;omega)];simp only[Array.getD,Array.size_setIfInBounds];by_cases hs:j<c.size
    ·simp[hs,Ne.symm he]
    ·simp[hs]
theorem YA {place:Nat->Option (Nat × Nat)} {ρ:RO} {μ:Option Lay}:∀(ps:List (Nat × AV)) (qs:List (Nat × Value)) (cs out:List AV) (c:Array Value),
  ps.length=qs.length->(∀i (h:i<ps.length) (h':i<qs.length),ps[i].1=qs[i].1/\Rv ρ μ ps[i].2 qs[i].2)->cs.length=c.size->RvC ρ μ cs c->ur place cs ps=some out ->
  ∃c',Instr.fill place c qs=some c'/\out.length=c'.size/\RvC ρ μ out c':=by
 intro ps;induction ps with
 |nil =>
  intro qs cs out c hl hp hs hc h;cases qs with
  |nil=>cases h;exact⟨c,rfl,hs,hc⟩
  |cons=>simp at hl
 |cons p r ih =>
  intro qs cs out c hl hp hs hc h;cases qs with
  |nil=>simp at hl
  |cons q s =>
   obtain ⟨i,v⟩:=p;obtain ⟨i',u⟩:=q;have h0:=hp 0 (by simp) (by simp);simp only[List.getElem_cons_zero] at h0;obtain ⟨rfl,hv⟩:=h0;simp only[ur] at h;cases hpl:place i with
   |none=>simp[hpl] at h
   |some os =>
    obtain ⟨off,size⟩:=os;simp only[hpl] at h;split at h
    ·cases h
    ·rename_i hcond;simp only[not_or,Bool.not_eq_false,ne_eq,Decidable.not_not,gt_iff_lt,Nat.not_lt] at hcond;obtain ⟨hsol,hsz,hle⟩:=hcond;obtain ⟨hcl,hcr⟩:=qT hsol hv;have hfold:=KC u.cells.toList off 0 c (by simp;omega);simp only[Nat.add_zero,Nat.sub_zero] at hfold;have hz:u.cells.zipIdx.foldl (fun cs (x:Value × Nat)=>cs.setIfInBounds (off+x.2) x.1) c=(u.cells.toList.zipIdx 0).foldl (fun cs (x:Value × Nat)=>cs.setIfInBounds (off+x.2) x.1) c:=by
      rw[<- Array.foldl_toList];simp
     have hres:=ih s (qF cs off v.cells) out ((u.cells.toList.zipIdx 0).foldl (fun cs (x:Value × Nat)=>cs.setIfInBounds (off+x.2) x.1) c) (by simpa using hl)
      (fun k h1 h2=>by have:=hp (k+1) (by simpa using h1) (by simpa using h2);simpa using this)
      (by rw[wE hle,hfold.1];exact hs)
      (fun j=>by
       rw[Yq hle,hfold.2];simp only[Array.length_toList];rw[hcl];split
       ·have:=hcr (j-off);rw[ja];exact this
       ·exact hc j) h
     obtain ⟨c',h1,h2,h3⟩:=hres;refine⟨c',?_,h2,h3⟩;simp only[Instr.fill,hpl];rw[if_neg (by simp;omega)];rw[hz];exact h1
theorem Ud {P:Program} {eq:TypeId->AV->AV->Option Bool} {D:Nat} {ρ:RO} {μ:Option Lay}
  (heq:∀t x y b cx cy (w:World),eq t x y=some b->Rv ρ μ x cx->Rv ρ μ y cy->(Op.equalIn D t cx cy).run P w=.ok b w)
  {xs ys:List AV} {cx cy:Array Value} (hx:RvC ρ μ xs cx) (hxl:xs.length<=cx.size) (hy:RvC ρ μ ys cy) (hyl:ys.length<=cy.size) (w:World) :
  ∀(fs:List Field) (b:Bool),x9 eq P xs ys fs=some b->(Op.eqFields D cx cy fs).run P w=.ok b w:=by
 intro fs;induction fs with
 |nil=>intro b h;cases h;simp[Op.eqFields]
 |cons f r ih =>
  intro b h;simp only[x9] at h;simp only[Op.eqFields,Sem.run_ite];split at h
  ·rename_i hn;rw[if_pos hn];split at h
   ·rename_i a1 a2 h1 h2;split at h
    ·rename_i x y h3 h4;cases h;obtain ⟨c1,r1,v1⟩:=kP h1 hx hxl w;obtain ⟨c2,r2,v2⟩:=kP h2 hy hyl w;simp only[Sem.run_bind,r1,r2,Result.andThen_ok,heq _ _ _ _ _ _ w h3 v1 v2];cases x<;>simp[ih y h4]
    ·cases h
   ·cases h
  ·rename_i hn;rw[if_neg hn];exact ih b h
theorem Te {P:Program} {eq:AV->AV->Option Bool} {D:Nat} {e:TypeId} {ρ:RO} {μ:Option Lay}
  (heq:∀x y b cx cy (w:World),eq x y=some b->Rv ρ μ x cx->Rv ρ μ y cy->(Op.equalIn D e cx cy).run P w=.ok b w)
  {xs ys:List AV} {cx cy:Array Value} (hx:RvC ρ μ xs cx) (hxl:xs.length<=cx.size) (hy:RvC ρ μ ys cy) (hyl:ys.length<=cy.size) (w:World) :
  ∀(n i:Nat) (b:Bool),Y7 eq P e xs ys i n=some b ->
   (forIn (m:=Sem) (List.range' i n) ((none,()):Option Bool × Unit) fun i _=>do
     let a <- part e cx (i*P.cellsOf e)
     let b <- part e cy (i*P.cellsOf e)
     let r <- Op.equalIn D e a b
     if (!r)=true then pure (ForInStep.done (some false,())) else pure (ForInStep.yield (none,()))).run P w=.ok (if b then (none,()) else (some false,())) w:=by
 intro n;induction n with
 |zero=>intro i b h;cases h;simp
 |succ n ih =>
  intro i b h;simp only[Y7] at h;split at h
  ·rename_i a1 a2 h1 h2;split at h
   ·rename_i x y h3 h4;cases h;obtain ⟨c1,r1,v1⟩:=kP h1 hx hxl w;obtain ⟨c2,r2,v2⟩:=kP h2 hy hyl w;have:=ih (i+1) y h4;simp only[List.range'_succ,List.forIn_cons,Sem.run_bind,r1,r2,Result.andThen_ok,heq _ _ _ _ _ w h3 v1 v2];cases x
    ·simp
    ·simp only[Bool.not_true,Bool.false_eq_true,if_false,Sem.run_pure,Result.andThen_ok,Bool.true_and];exact this
   ·cases h
  ·cases h
theorem Wh {x:AV} (h:x.zz=true):x=.slc 0 []:=by
 unfold AV.zz at h;split at h
 ·rfl
 ·cases h
theorem T4 {ρ:RO} {μ:Option Lay} {y:AV} {cy:Value} {b:Bool} (h:y.zS=some b) (hy:Rv ρ μ y cy):if b then cy=.slice none 0 0 else ∃a l c,cy=.slice (some a) l c:=by
 unfold AV.zS at h;split at h
 ·cases h;cases hy with
  |nilslc=>rfl
  |eslc _ _ a hm=>exact absurd rfl hm
  |slc _ _ _ b o cap k c hm=>exact absurd rfl hm
 ·cases h;cases hy with
  |slc _ _ _ b o cap k c hm=>exact⟨_,_,_,rfl⟩
 ·cases h;cases hy with
  |aslc=>exact⟨_,_,_,rfl⟩
 ·cases h
theorem QO {P:Program} {ρ:RO} {μ:Option Lay}:∀(d:Nat) (t:TypeId) (x y:AV) (b:Bool) (cx cy:Value) (D:Nat) (w:World),eqA P d t x y=some b->d<=D->Rv ρ μ x cx->Rv ρ μ y cy ->
  (Op.equalIn D t cx cy).run P w=.ok b w:=by
 intro d;induction d with
 |zero=>intro t x y b cx cy D w h;simp[eqA] at h
 |succ d ih =>
  intro t x y b cx cy D w h hD hx hy;obtain ⟨D,rfl⟩:∃D',D=D'+1:=⟨D-1,by omega⟩;simp only[eqA] at h;split at h
  ·rename_i hu;split at h
   ·rename_i p q hp hq;cases h;rw[wj hp hx,wj hq hy];simp[Op.equalIn,run_underlying hu]
   ·cases h
  ·rename_i k hu;split at h
   ·rename_i k1 p l1 k2 q l2 hp hq;split at h
    ·rename_i hk;cases h;subst hk;rw[yA hp hx,yA hq hy];simp[Op.equalIn,run_underlying hu]
    ·cases h
   ·cases h
  ·rename_i hu;split at h
   ·cases h;cases hx;cases hy;simp[Op.equalIn,run_underlying hu,beq_toListBytes]
   ·cases h
  ·rename_i el hu;split at h<;>first | (cases h;cases hx;cases hy;simp[Op.equalIn,run_underlying hu];done) | cases h
  ·rename_i ms hu;split at h<;>first | (cases h;cases hx;cases hy;simp[Op.equalIn,run_underlying hu];done) | cases h
  ·rename_i hu;split at h<;>first | (cases h;cases hx;cases hy;simp[Op.equalIn,run_underlying hu];done) | cases h
  ·rename_i el hu;split at h
   ·rename_i hn;have:=Wh hn;subst this;obtain rfl:cx=.slice none 0 0:=by
     cases hx with
     |nilslc=>rfl
     |eslc _ _ a hm=>exact absurd rfl hm
     |slc _ _ _ b o cap k c hm=>exact absurd rfl hm
    have:=T4 h hy;cases b with
    |true=>rw[this];simp[Op.equalIn,run_underlying hu]
    |false=>obtain ⟨a,l,c,rfl⟩:=this;simp[Op.equalIn,run_underlying hu]
   ·split at h
    ·rename_i hn;have:=Wh hn;subst this;obtain rfl:cy=.slice none 0 0:=by
      cases hy with
      |nilslc=>rfl
      |eslc _ _ a hm=>exact absurd rfl hm
      |slc _ _ _ b o cap k c hm=>exact absurd rfl hm
     have:=T4 h hx;cases b with
     |true=>rw[this];simp[Op.equalIn,run_underlying hu]
     |false=>obtain ⟨a,l,c,rfl⟩:=this;simp[Op.equalIn,run_underlying hu]
    ·cases h
  ·rename_i fs hu;split at h
   ·rename_i xs ys;split at h
    ·cases h
    ·rename_i hs;cases hx with
     |agg _ _ vx hlx hhx=>cases hy with
      |agg _ _ vy hly hhy =>
       have hf:P.fieldsOf t=fs:=by simp[Program.fieldsOf,hu]
       rw[run_equalIn_struct w D t vx vy (by rw[hf];exact hu) (by simpa using hs),hf];exact Ud (eq:=eqA P d) (fun t x y b cx cy w h hx hy=>ih t x y b cx cy D w h (by omega) hx hy) hhx (by omega) hhy (by omega) w fs.toList b h
   ·cases h
  ·rename_i n e hu;split at h
   ·rename_i xs ys;split at h
    ·cases h
    rename_i he;obtain ⟨de,he⟩:∃d,P.underlying e=some d:=by cases hh:P.underlying e<;>simp_all
    cases hx with
    |agg _ _ vx hlx hhx=>cases hy with
     |agg _ _ vy hly hhy =>
      have hloop:=Te (D:=D) (e:=e) (eq:=eqA P d e) (fun x y b cx cy w h hx hy=>ih e x y b cx cy D w h (by omega) hx hy) hhx (by omega) hhy (by omega) w n 0 b h;simp only[Op.equalIn,Sem.run_bind,run_underlying hu,Result.andThen_ok,yD he];rw[Std.Legacy.Range.forIn_eq_forIn_range'];simp only[Std.Legacy.Range.size,Nat.sub_zero,Nat.add_sub_cancel,Nat.div_one];rw[hloop];cases b<;>simp
   ·cases h
  ·cases h
def RvO (ρ:RO) (μ:Option Lay) (e:Operand->AV) (c:Operand->Value):Prop:=∀x,Rv ρ μ (e x) (c x)
theorem Mj {P:Program} {op:BinOp} {k:IntKind} {a b:Int} {l:Bool} {v:AV} (h:H8 op k a b l=some v) (ρ:RO) (μ:Option Lay) (t:TypeId) (w:World) :
  ∃cv,(binOp op t (.int k a) (.int k b)).run P w=.ok cv w/\Rv ρ μ v cv:=by
 cases op<;>simp only[H8,Option.some.injEq,reduceCtorEq] at h<;>subst h <;>
  first
   |exact⟨_,(by simp only[binOp,ne_eq,not_true_eq_false,if_false];rfl),Rv.mkI ..⟩
   |exact⟨_,(by simp only[binOp,ne_eq,not_true_eq_false,if_false];rfl),Rv.mkB ..⟩
theorem qC {P:Program} {op:BinOp} {t:TypeId} {x y:Operand} {a b:Value} (w:World) (h1:¬ (a=.nilIface/\b=.nilIface)) (h2:(∃p q,a=.agg p/\b=.agg q)->P.eqGuardType P.depth t=false) :
  (eqGuard op t x y a b).run P w=.ok () w:=by
 have key:∀s:Sem Unit,(∀w,(match a,b with
   |.nilIface,.nilIface=>s
   |.agg _,.agg _=>(do
    if !(<- program).eqGuardType (<- program).depth t then return
    if <- Op.eqGuardIn Op.maxDepth t a b then unsupported (.noEntry "binop/eql: two nil values of an interface type with methods, in a part of a struct or an array"):Sem Unit)
   |_,_=>(pure ():Sem Unit)).run P w=.ok () w):=by
  intro s w;split
  ·simp at h1
  ·rename_i p q;have:=h2 ⟨p,q,rfl,rfl⟩;simp[this]
  ·rfl
 unfold eqGuard;cases op<;>first | rfl | (rw[if_neg (by simp)];exact key _ w)
theorem vS {x:Operand} (h:qR x=true):x=.const .nilIface:=by
 unfold qR at h;split at h
 ·rfl
 ·cases h
theorem QP {P:Program} (op:BinOp) (t:TypeId) (a b:Operand) (w:World) (hc:(qR a || qR b)=true):(eqGuard op t a b .nilIface .nilIface).run P w=.ok () w:=by
 rcases Bool.or_eq_true_iff.1 hc with h | h
 ·rw[vS h];unfold eqGuard;cases op<;>simp
 ·rw[vS h];unfold eqGuard;cases op<;>simp
theorem wR {P:Program} (op:BinOp) (t:TypeId) (cx cy:Value) (w:World) (e b:Bool) (he:MM op=some e)
  (hb:∀D,12<=D->(Op.equalIn D t cx cy).run P w=.ok b w)
  (hn:(∀k n,cx≠.int k n)/\(∀k n,cx≠.float k n)/\(∀k n m,cx≠.complex k n m)/\(∀s,cx≠.string s)) :
  (binOp op t cx cy).run P w=.ok (.bool (if e then b else !b)) w:=by
 have hq:(Op.equal t cx cy).run P w=.ok b w:=hb 10000 (by omega);obtain ⟨h1,h2,h3,h4⟩:=hn;cases op<;>simp only[MM,Option.some.injEq,reduceCtorEq] at he<;>subst he<;>cases cx <;>
  first
   |exact absurd rfl (h1 _ _)
   |exact absurd rfl (h2 _ _)
   |exact absurd rfl (h3 _ _ _)
   |exact absurd rfl (h4 _)
   |simp[binOp,hq]
theorem Mi {P:Program} {op:BinOp} {t:TypeId} {x y:AV} {a b:Operand} {v:AV} {ρ:RO} {μ:Option Lay} {cx cy:Value}
  (h:J6 P op t (qR a || qR b) x y=some v) (hx:Rv ρ μ x cx) (hy:Rv ρ μ y cy) (w:World) :
  ∃cv,(do eqGuard op t a b cx cy;binOp op t cx cy:Sem Value).run P w=.ok cv w/\Rv ρ μ v cv:=by
 unfold J6 at h;split at h
 ·rename_i k p l k' q l' hp hq;rw[yA hp hx,yA hq hy];split at h
  ·rename_i hk;subst hk;obtain ⟨cv,h1,h2⟩:=Mj h ρ μ t w (P:=P);refine⟨cv,?_,h2⟩;rw[Sem.run_bind,qC w (by simp) (by simp)];exact h1
  ·cases h
 ·split at h
  ·cases h;cases hx;cases hy;exact⟨_,by rw[Sem.run_bind,qC w (by simp) (by simp)];rfl,.bool ..⟩
  ·cases h;cases hx;cases hy;exact⟨_,by rw[Sem.run_bind,qC w (by simp) (by simp)];rfl,.bool ..⟩
  ·cases h;cases hx;cases hy;exact⟨_,by rw[Sem.run_bind,qC w (by simp) (by simp)];rfl,.bool ..⟩
  ·cases h;cases hx;cases hy;exact⟨_,by rw[Sem.run_bind,qC w (by simp) (by simp)];rfl,.bool ..⟩
  ·cases h;cases hx;cases hy;exact⟨_,by rw[Sem.run_bind,qC w (by simp) (by simp)];rfl,.bool ..⟩
  ·cases h;cases hx;cases hy;exact⟨_,by rw[Sem.run_bind,qC w (by simp) (by simp)];rfl,.bool ..⟩
  ·cases h
  ·split at h
   ·rename_i hc;rw[Bool.and_eq_true] at hc;obtain ⟨hc,hu⟩:=hc;obtain ⟨ms,hu⟩:∃ms,P.underlying t=some (.interface ms):=by
     unfold Pb at hu;split at hu
     ·exact⟨_,‹_›⟩
     ·cases hu
    obtain ⟨e,he,rfl⟩:=Option.map_eq_some_iff.1 h;cases hx;cases hy;have hg:(eqGuard op t a b .nilIface .nilIface).run P w=.ok () w:=QP op t a b w hc;refine⟨.bool (if e then true else !true),?_,by cases e<;>first | exact .ff _ | exact .tt _⟩;rw[Sem.run_bind,hg];exact wR op t _ _ w e true he (fun D hD=>by obtain ⟨D,rfl⟩:∃D',D=D'+1:=⟨D-1,by omega⟩;simp[Op.equalIn,run_underlying hu]) (by simp)
   ·cases h
  ·split at h
   ·cases h
   ·rename_i hg;split at h
    ·rename_i e bb he hb;cases h;have hxa:=hx;have hya:=hy;cases hx with
     |agg _ _ vx hlx hhx=>cases hy with
      |agg _ _ vy hly hhy =>
       refine⟨.bool (if e then bb else !bb),?_,.bool ..⟩;rw[Sem.run_bind,qC w (by simp) (fun _=>by simpa using hg)];exact wR op t _ _ w e bb he (fun D hD=>QO 12 t _ _ bb _ _ D w hb hD hxa hya) (by simp)
    ·cases h
  ·rename_i hnn haa;split at h
   ·rename_i hcm;rw[Bool.and_eq_true] at hcm;split at h
    ·rename_i e bb he hb;have hxa:=hx;have hya:=hy;have hnice:(∀k n,cx≠.int k n)/\(∀k n,cx≠.float k n)/\(∀k n m,cx≠.complex k n m)/\(∀s,cx≠.string s):=by
      obtain ⟨hc1,-⟩:=hcm;cases hx<;>simp_all [AV.cmp]
     have hg:(eqGuard op t a b cx cy).run P w=.ok () w:=by
      refine qC w ?_ ?_
      ·rintro ⟨rfl,rfl⟩;obtain ⟨hc1,hc2⟩:=hcm;cases hx<;>cases hy<;>simp_all [AV.cmp]
      ·rintro ⟨p,q,rfl,rfl⟩;obtain ⟨hc1,hc2⟩:=hcm;cases hx<;>simp_all [AV.cmp]
     refine⟨.bool (if e then bb else !bb),?_,?_⟩
     ·rw[Sem.run_bind,hg];exact wR op t _ _ w e bb he (fun D hD=>QO 12 t _ _ bb _ _ D w hb hD hxa hya) hnice
     ·cases h;split
      ·exact .bool ..
      ·exact Rv.mkB ..
    ·cases h
   ·cases h
end Go.Proofs.YtkojpnkknehhmaaGreatDoor

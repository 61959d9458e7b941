/- Loads, stores, indexes, slices, divisions. Stores, slices of slices, new boxes. Slice expressions, append, new boxes. -/
import Derived.Test.YtkojpnkknehhmaaGreatDoorR5
namespace Go.Proofs.YtkojpnkknehhmaaGreatDoor
open Go.RowKit
theorem QY {P:Program} {d:Nat} (ih:∀(t:TypeId) (K:List AV->Prop),ju P d t K->∃cs,K cs):∀(fs:List Field) (K:List AV->Prop) (acc:List AV),
  fs.foldr (fun f (k:List AV->Prop) acc=>ju P d f.type fun cs=>k (acc++cs)) K acc->∃cs,K cs:=by
 intro fs;induction fs with
 |nil=>intro K acc h;exact⟨acc,h⟩
 |cons f r ih2 =>
  intro K acc h;obtain ⟨cs,h⟩:=ih _ _ h;exact ih2 K _ h
theorem vC {P:Program}:∀(d:Nat) (t:TypeId) (K:List AV->Prop),ju P d t K->∃cs,K cs:=by
 intro d;induction d with
 |zero=>intro t K h;exact h.elim
 |succ d ih =>
  intro t K h;simp only[ju] at h;split at h
  ·obtain ⟨b,h⟩:=h;exact⟨_,h⟩
  ·obtain ⟨b,h⟩:=h;exact⟨_,h⟩
  ·obtain ⟨b,h⟩:=h;exact⟨_,h⟩
  ·obtain ⟨b,h⟩:=h;exact⟨_,h⟩
  ·exact QY ih _ _ _ h
  ·rename_i n e _;have key:∀(n:Nat) (acc:List AV),Nat.rec (motive:=fun _=>List AV->Prop) K (fun _ k acc=>ju P d e fun cs=>k (acc++cs)) n acc->∃cs,K cs:=by
    intro n;induction n with
    |zero=>intro acc h;exact⟨acc,h⟩
    |succ n ih2 =>
     intro acc h;obtain ⟨cs,h⟩:=ih _ _ h;exact ih2 _ h
   exact key n [] h
  ·obtain ⟨b,h⟩:=h;exact⟨_,h⟩
theorem uq {P:Program} {t:TypeId} {K:AV->Prop} (h:exT P t K):∃v,K v:=by
 obtain ⟨cs,h⟩:=vC _ _ _ h;exact⟨_,h⟩
theorem Ou {P:Program}:∀ {ts:List TypeId} {K:AV->Prop},Kv P ts K->∃v,K v:=by
 intro ts K h;match ts with
 |[]=>exact⟨_,h⟩
 |[t]=>exact uq h
 |t::u::r =>
  have key:∀(l:List TypeId) (K:List AV->Prop) (acc:List AV),l.foldr (fun t (k:List AV->Prop) acc=>exT P t fun v=>k (acc++[v])) K acc->∃vs,K vs:=by
   intro l;induction l with
   |nil=>intro K acc h;exact⟨acc,h⟩
   |cons f r ih2 =>
    intro K acc h;have h:exT P f (fun v=>r.foldr (fun t (k:List AV->Prop) acc=>exT P t fun v=>k (acc++[v])) K (acc++[v])):=h;obtain ⟨v,h⟩:=uq h;exact ih2 K _ h
  obtain ⟨vs,h⟩:=key _ (fun vs=>K (.tup vs)) [] h;exact⟨_,h⟩
mutual
theorem Ug (x:AV) {K:AV->Prop} (h:exV x K):∃v,K v:=by
 cases x with
 |int k n=>obtain ⟨n,h⟩:=h;exact⟨_,h⟩
 |bool b=>obtain ⟨n,h⟩:=h;exact⟨_,h⟩
 |str s=>obtain ⟨n,h⟩:=h;exact⟨_,h⟩
 |slc m es=>obtain ⟨n,h⟩:=h;exact⟨_,h⟩
 |undef=>obtain ⟨n,h⟩:=h;exact⟨_,h⟩
 |iface t v=>obtain ⟨v,h⟩:=Ug v h;exact⟨_,h⟩
 |agg cs=>obtain ⟨v,h⟩:=va cs h;exact⟨_,h⟩
 |tup cs=>obtain ⟨v,h⟩:=va cs h;exact⟨_,h⟩
 |fn f a c =>
  obtain ⟨a,h⟩:=va a h;obtain ⟨c,h⟩:=va c h;exact⟨_,h⟩
 |eptr cs off=>obtain ⟨v,h⟩:=va cs h;exact⟨_,h⟩
 |_=>exact⟨_,h⟩
theorem va (l:List AV) {K:List AV->Prop} (h:exL l K):∃v,K v:=by
 cases l with
 |nil=>exact⟨_,h⟩
 |cons x r =>
  obtain ⟨v,h⟩:=Ug x h;obtain ⟨l,h⟩:=va r h;exact⟨_,h⟩
end
theorem QR {K:AV->Prop} (x:AV) (h:exX x K):∃v,K v:=by
 unfold exX at h;split at h
 ·obtain ⟨es,h⟩:=h;exact⟨_,h⟩
 ·exact⟨_,h⟩
 ·exact Ug _ h
theorem Uf {K:AV->Prop}:∀ {l:List AV},exO l K->∃v,K v
 |[],h=>h.elim
 |[x],h=>QR x h
 |x::y::s,h=>by
  rcases h with h | h
  ·exact QR x h
  ·exact Uf (l:=y::s) h
theorem Ku {P:Program} {w:Ways} {t:TypeId} {K:AV->Prop} (h:exE P w t K):∃v,K v:=by
 unfold exE at h;split at h
 ·exact Uf h
 ·exact uq h
theorem Oq {P:Program} {w:Ways} {f:FuncId} {ts:List TypeId} {K:AV->Prop} (h:Wf P w f ts K):∃v,K v:=by
 unfold Wf at h;split at h
 ·exact Uf h
 ·exact Ou h
theorem XR {n:Nat} {i:AV} {F:Nat->Prop} (h:SS n i F):∃(k:IntKind) (j:Nat) (l:Bool),i.zu=some (k,(j:Int),l)/\j<n/\F j:=by
 unfold SS at h;split at h
 ·rename_i k j hj;split at h
  ·rename_i hb;obtain ⟨m,rfl⟩:∃m:Nat,j=m:=⟨j.toNat,by omega⟩;exact⟨k,m,true,hj,by omega,h⟩
  ·exact h.elim
 ·rename_i k j hj;obtain ⟨⟨h1,h2⟩,h3⟩:=h;obtain ⟨m,rfl⟩:∃m:Nat,j=m:=⟨j.toNat,by omega⟩;refine⟨k,m,false,hj,by omega,?_⟩;have key:∀n,m<n->Qa (m:Int) F n->F m:=by
   intro n;induction n with
   |zero=>intro h;omega
   |succ n ih =>
    intro hm h;by_cases he:m=n
    ·subst he;exact h.1 rfl
    ·exact ih (by omega) h.2
  exact key n (by omega) h3
 ·exact h.elim
theorem qX (b o n:Nat):(Addr.add ⟨b,o,none⟩ n)=⟨b,o+n,none⟩:=by unfold Addr.add;split<;>simp_all
theorem Yu {ρ:RO} {w:World} (hro:∀k o,ρ k=some o->w.heap[k]? = some o) {b off:Nat} {v:Value} (h:ρ.cell b off=some v):w.cell? ⟨b,off,none⟩=some v:=by
 unfold RO.cell at h;cases hb:ρ b with
 |none=>simp[hb] at h
 |some o =>
  rw[hb] at h;cases o<;>simp only[reduceCtorEq] at h;unfold World.cell?;rw[hro _ _ hb];simpa using h
theorem Wd {w:World} {b off:Nat} {c:Array Value} {e:TypeId} {f:Nat × Nat} (h:w.heap[b]? = some (.cells c e f)):w.cell? ⟨b,off,none⟩=c[off]?:=by
 unfold World.cell?;rw[h];simp
theorem ku {P:Program} {t:TypeId} {cs:List AV} {off:Nat} {v:AV} (h:kx P t cs off=some v) {ρ:RO} {μ:Option Lay} {w:World} {B o:Nat} {f:Nat->Value}
  (hc:∀j,j<cs.length->w.cell? ⟨B,o+j,none⟩=some (f j)) (hr:∀j,Rv ρ μ (cs.getD j .undef) (f j)) :
  ∃cv,(loadVar t ⟨B,o+off,none⟩).run P w=.ok cv w/\Rv ρ μ v cv:=by
 unfold kx at h;have agg:∀d,P.underlying t=some d->yf P t=true->(if off+P.cellsOf t<=cs.length then some (AV.agg ((cs.drop off).take (P.cellsOf t))) else none)=some v ->
   ∃cv,(loadVar t ⟨B,o+off,none⟩).run P w=.ok cv w/\Rv ρ μ v cv:=by
  intro d hd ha h;split at h
  ·rename_i hb;cases h;refine⟨.agg ((List.range (P.cellsOf t)).map fun j=>f (off+j)).toArray,?_,.agg _ _ _ (by simp;omega) (fun j=>?_)⟩
   ·simp only[loadVar,Sem.run_bind,vN hd,ha,yD hd,Result.andThen_ok,if_true];rw[run_loadCells w _ _ (fun j=>f (off+j)) (fun j hj=>by rw[qX,Nat.add_assoc];exact hc _ (by omega))];rfl
   ·rcases Nat.lt_or_ge j (P.cellsOf t) with hj | hj
    ·have h1:((cs.drop off).take (P.cellsOf t)).getD j .undef=cs.getD (off+j) .undef:=by simp[List.getD,hj]
     have h2:(((List.range (P.cellsOf t)).map fun j=>f (off+j)).toArray).getD j Go.undef=f (off+j):=by simp[Array.getD,hj]
     rw[h1,h2];exact hr _
    ·rw[yH (by simp;omega)];exact .undef _ _
  ·cases h
 split at h
 ·rename_i fs hu;exact agg _ hu (by simp[yf,hu]) h
 ·rename_i n e hu;exact agg _ hu (by simp[yf,hu]) h
 ·rename_i d hn1 hn2 hu;have ha:yf P t=false:=by
   unfold yf;rw[hu];cases d<;>simp_all
  obtain ⟨hlt,hv⟩:=List.getElem?_eq_some_iff.1 h;refine⟨f off,?_,?_⟩
  ·simp only[loadVar,Sem.run_bind,vN hu,ha,Result.andThen_ok,Bool.false_eq_true,if_false,run_load,hc off hlt]
  ·have:=hr off;simp only[List.getD,h,Option.getD_some] at this;exact this
 ·cases h
section
variable {ds:List Deferred} {n:Nat} {μ0:Lay} {ρ0:RO} {w0:World} {ρ:RO} {μ:Lay} {σ:St} {a:Act} {w:World}
theorem Sat.cells (hs:Sat ds n μ0 ρ0 w0 ρ μ σ a w) {b:Nat} {x:Bx} (hb:σ.bx.getD b none=some x) (hm:x.mp=none) :
  ∃f:Nat->Value,(∀j,j<x.cs.length->w.cell? ⟨(μ b).1,0+j,none⟩=some (f j))/\∀j,Rv ρ (lev μ x) (x.cs.getD j .undef) (f j):=by
 obtain ⟨h1,h2⟩:=hs.box b x hb;rcases h2 with h0 | ⟨o,h3,h5⟩
 ·have:x.cs=[]:=List.eq_nil_of_length_eq_zero (by omega);rw[this];exact⟨fun _=>Go.undef,by simp,fun j=>.undef _ _⟩
 ·obtain ⟨c,e,rfl,h4,h5⟩:=h5.get (by rw[uI];exact hm);refine⟨fun j=>c.getD j Go.undef,fun j hj=>?_,h5⟩;rw[Wd h3];have:j<c.size:=by omega
  simp[Array.getD,this]
theorem Uy {P:Program} {t:TypeId} {x:AV} {cx:Value} {K:AV->Prop} (hs:Sat ds n μ0 ρ0 w0 ρ μ σ a w) (hx:Rv ρ (some μ) x cx) (h:vT P t σ x K) :
  ∃v cv,(Instr.loadAt t cx).run P w=.ok cv w/\Rv ρ (some μ) v cv/\K v:=by
 unfold vT at h;split at h
 ·rename_i cs off;cases hx with
  |eptr _ _ B o _ c hc hh =>
   split at h
   ·rename_i v hv;obtain ⟨cv,h1,h2⟩:=ku hv (w:=w) (B:=B) (o:=o) (f:=c) (fun j hj=>Yu hs.ro (hc j hj)) hh;exact⟨v,cv,by simpa[Instr.loadAt,Instr.sureAddr] using h1,h2,h⟩
   ·exact h.elim
 ·rename_i b off;cases hx with
  |ref m =>
   split at h
   ·rename_i bx hb;split at h
    ·exact h.elim
    rename_i hm;obtain ⟨f,h1,h2'⟩:=hs.cells hb (by simpa using hm);have h2:∀j,Rv ρ (some μ) (bx.cs.getD j .undef) (f j):=fun j=>(h2' j).zm
    split at h
    ·obtain ⟨v,hv,hK⟩:=uq h;obtain ⟨u,hu,rfl⟩:=Option.map_eq_some_iff.1 hv;obtain ⟨cv,h3,h4⟩:=ku hu h1 h2;exact⟨_,cv,by simpa[Instr.loadAt,Instr.sureAddr] using h3,h4.norm,hK⟩
    ·split at h
     ·rename_i v hv;obtain ⟨cv,h3,h4⟩:=ku hv h1 h2;exact⟨v,cv,by simpa[Instr.loadAt,Instr.sureAddr] using h3,h4,h⟩
     ·exact h.elim
   ·exact h.elim
 ·exact h.elim
theorem Ol {P:Program} {w:Ways} {kn:Bool} {e:TypeId} {es:List AV} {j:Int} {K:AV->Prop} (h:Ub P w kn e es j K):∃v,K v:=by
 unfold Ub at h;split at h
 ·split at h
  ·exact⟨_,h⟩
  ·exact h.elim
 ·exact Ku h
theorem Wu {P:Program} {ws:Ways} {t:TypeId} {x i:AV} {cx ci:Value} {K:AV->Prop} (hx:Rv ρ (some μ) x cx) (hi:Rv ρ (some μ) i ci) (h:qQ P ws t x i K) (w:World) :
  ∃v cv,(Instr.indexAt t cx ci).run P w=.ok cv w/\Rv ρ (some μ) v cv/\K v:=by
 unfold qQ at h;split at h
 ·rename_i n e hu;split at h
  ·exact h.elim
  rename_i hne;obtain ⟨de,he⟩:∃d,P.underlying e=some d:=by cases hh:P.underlying e<;>simp_all
  have hrun:∀(k:IntKind) (j:Nat) (B o:Nat),j<n->(Instr.indexAt t (.pointer (some ⟨B,o,none⟩)) (.int k j)).run P w=.ok (.pointer (some ⟨B,o+j*P.cellsOf e,none⟩)) w:=by
   intro k j B o hj;have h1:(0<=(j:Int)/\(j:Int)<(n:Int)):=⟨by omega,by omega⟩;simp only[Instr.indexAt,asIntOf,Sem.run_bind,Sem.run_pure,Result.andThen_ok,run_underlying hu,Instr.sureAddr];rw[if_pos h1];simp only[Sem.run_bind,yD he,Result.andThen_ok,Sem.run_pure];rw[qX];rfl
  split at h
  ·rename_i b off;obtain ⟨k,j,l,hI,hj,hK⟩:=XR h;rw[yA hI hi];cases hx with
   |ref=>exact⟨_,_,hrun k j _ _ hj,.ref μ b _,hK⟩
  ·rename_i cs off;obtain ⟨k,j,l,hI,hj,hK⟩:=XR h;rw[yA hI hi];cases hx with
   |eptr _ _ B o _ c hc hh =>
    refine⟨_,_,hrun k j _ _ hj,?_,hK⟩;rw[Nat.add_assoc];exact .eptr _ cs B o _ c hc hh
  ·exact h.elim
 ·rename_i e hu;split at h
  ·exact h.elim
  rename_i hne;obtain ⟨de,hde⟩:∃d,P.underlying e=some d:=by cases hh:P.underlying e<;>simp_all
  split at h
  ·rename_i m es k j l hI;obtain ⟨v,⟨h0,hsz,hv⟩,hK⟩:=Ol h;rw[yA hI hi];obtain ⟨hlt,hve⟩:=List.getElem?_eq_some_iff.1 hv;cases hx with
   |nilslc=>simp at hlt
   |eslc=>simp at hlt
   |slc _ _ _ B o cap kk c hm hcap h2 hk hc hh =>
    have hg:es.getD j.toNat .undef=v:=by simp[List.getD,hv]
    have hkk:kk=P.cellsOf e:=by rw[<- hsz,<- hg];exact(hk _ hlt).symm
    subst hkk;refine⟨_,.pointer (some ⟨B,(o+j.toNat*P.cellsOf e)+0,none⟩),?_,.eptr _ _ B _ 0 (c j.toNat) (fun i hi=>hc _ hlt _ (by omega)) (fun i=>by rw[<- hg];exact(hh _ _).any _),hK⟩;simp only[Instr.indexAt,asIntOf,Sem.run_bind,Sem.run_pure,Result.andThen_ok,run_underlying hu];rw[if_pos ⟨h0,by omega⟩];simp only[Sem.run_bind,yD hde,Result.andThen_ok,Sem.run_pure];rw[qX];rfl
  ·rename_i b off len esz ag k j l hI;obtain ⟨⟨h0,hlt,he⟩,hK⟩:=h;rw[yA hI hi];cases hx with
   |aslc _ _ _ _ _ _ cap hcap hr =>
    refine⟨_,.pointer (some ⟨(μ b).1,off+j.toNat*esz,none⟩),?_,.ref μ b _,hK⟩;simp only[Instr.indexAt,asIntOf,Sem.run_bind,Sem.run_pure,Result.andThen_ok,run_underlying hu];rw[if_pos ⟨h0,hlt⟩];simp only[Sem.run_bind,yD hde,Result.andThen_ok,Sem.run_pure];rw[qX,he]
   |aslc0=>omega
  ·exact h.elim
 ·exact h.elim
theorem Q8 {P:Program} {t:TypeId} {x i:AV} {cx ci:Value} {K:AV->Prop} (hx:Rv ρ (some μ) x cx) (hi:Rv ρ (some μ) i ci) (h:uz P t x i K) (w:World) :
  ∃v cv,(Instr.index t cx ci).run P w=.ok cv w/\Rv ρ (some μ) v cv/\K v:=by
 unfold uz at h;split at h
 ·rename_i n e hu;split at h
  ·rename_i cs;obtain ⟨k,j,l,hI,hj,hK⟩:=XR h;rw[yA hI hi];split at hK
   ·rename_i v hv;cases hx with
    |agg _ _ vs hl hh =>
     obtain ⟨cv,h1,h2⟩:=kP hv hh (by omega) w;have he:∃d,P.underlying e=some d:=by
      unfold kx at hv;split at hv<;>first | exact⟨_,‹_›⟩ | cases hv
     obtain ⟨de,he⟩:=he;refine⟨v,cv,?_,h2,hK⟩;simp only[Instr.index,asIntOf,Sem.run_bind,Sem.run_pure,Result.andThen_ok,run_underlying hu];rw[if_pos ⟨by omega,by omega⟩];simp only[Sem.run_bind,yD he,Result.andThen_ok];exact h1
   ·exact hK.elim
  ·exact h.elim
 ·rename_i hu;split at h
  ·rename_i s k j l hI;obtain ⟨c,⟨h0,hc⟩,hK⟩:=h;rw[yA hI hi];cases hx;refine⟨_,.int .u8 c.toNat,?_,.int ..,hK⟩;simp only[Instr.index,asIntOf,Sem.run_bind,Sem.run_pure,Result.andThen_ok,run_underlying hu,h0,if_true,hc]
  ·exact h.elim
 ·exact h.elim
theorem uR {P:Program} {op:BinOp} {t:TypeId} {x y:AV} {p q:Operand} {cx cy:Value} {K:AV->Prop} (hx:Rv ρ (some μ) x cx) (hy:Rv ρ (some μ) y cy) (h:Ws op x y K) (w:World) :
  ∃v cv,(do eqGuard op t p q cx cy;binOp op t cx cy:Sem Value).run P w=.ok cv w/\Rv ρ (some μ) v cv/\K v:=by
 unfold Ws at h;split at h
 ·rename_i k m l k' r l' hp hq;rw[yA hp hx,yA hq hy];have main:∀v cv,(binOp op t (.int k m) (.int k' r)).run P w=.ok cv w->Rv ρ (some μ) v cv->K v ->
    ∃v cv,(do eqGuard op t p q (.int k m) (.int k' r);binOp op t (.int k m) (.int k' r):Sem Value).run P w=.ok cv w/\Rv ρ (some μ) v cv/\K v :=
   fun v cv h1 h2 h3=>⟨v,cv,by rw[Sem.run_bind,qC w (by simp) (by simp)];exact h1,h2,h3⟩
  split at h
  ·split at h
   ·rename_i hk;subst hk;have hK:r≠0/\∃l,K (mkI k (k.wrap (m.tdiv r)) l):=by
     split at h
     ·split at h
      ·exact h.elim
      ·exact⟨‹_›,_,h⟩
     ·exact⟨h.1,_,h.2⟩
    obtain ⟨h0,l,hK⟩:=hK;exact main _ _ (by simp[binOp,Op.intDiv,h0]) (Rv.mkI ..) hK
   ·exact h.elim
  ·split at h
   ·rename_i hk;subst hk;have hK:r≠0/\∃l,K (mkI k (m.tmod r) l):=by
     split at h
     ·split at h
      ·exact h.elim
      ·exact⟨‹_›,_,h⟩
     ·exact⟨h.1,_,h.2⟩
    obtain ⟨h0,l,hK⟩:=hK;exact main _ _ (by simp[binOp,Op.intDiv,h0]) (Rv.mkI ..) hK
   ·exact h.elim
  ·have hK:¬ r<0/\∃l,K (mkI k (k.wrap (m*2 ^ (min r.toNat k.bits))) l):=by
    split at h
    ·split at h
     ·exact h.elim
     ·exact⟨‹_›,_,h⟩
    ·exact⟨by have:=h.1;omega,_,h.2⟩
   obtain ⟨h0,l,hK⟩:=hK;exact main _ _ (by simp[binOp,Op.shift,h0]) (Rv.mkI ..) hK
  ·have hK:¬ r<0/\∃l,K (mkI k (m.fdiv (2 ^ (min r.toNat k.bits))) l):=by
    split at h
    ·split at h
     ·exact h.elim
     ·exact⟨‹_›,_,h⟩
    ·exact⟨by have:=h.1;omega,_,h.2⟩
   obtain ⟨h0,l,hK⟩:=hK;exact main _ _ (by simp[binOp,Op.shift,h0]) (Rv.mkI ..) hK
  ·exact h.elim
 ·exact h.elim
end
theorem vX {P:Program} {B off:Nat} {e:TypeId}:∀(vs:List Value) (i:Nat) (w:World) (c:Array Value),w.heap[B]? = some (.cells c e (0,0))->(∀v∈vs,v.oneCell'=true)->off+i+vs.length<=c.size ->
  ∃w' c',(storeCells ⟨B,off,none⟩ vs i).run P w=.ok () w'/\qH B w w'/\w'.heap[B]? = some (.cells c' e (0,0))/\c'.size=c.size /\
   ∀j,c'.getD j Go.undef=if off+i<=j/\j<off+i+vs.length then vs.getD (j-off-i) Go.undef else c.getD j Go.undef:=by
 intro vs;induction vs with
 |nil=>intro i w c h _ _;exact⟨w,c,rfl,qH.refl B w,h,rfl,fun j=>by simp;omega⟩
 |cons v r ih =>
  intro i w c h hv hl;simp only[List.length_cons] at hl;have hlt:off+i<c.size:=by omega
  have hcell:w.cell? ⟨B,off+i,none⟩=some c[off+i]:=by rw[Wd h];simp[hlt]
  have hfr:w.frozen? ⟨B,off+i,none⟩=false:=by unfold World.frozen?;rw[h];simp
  have h1:(w.setCell ⟨B,off+i,none⟩ v).heap[B]? = some (.cells (c.setIfInBounds (off+i) v) e (0,0)):=by
   simp only[World.setCell,Array.getElem?_modify,if_true,h];simp
  obtain ⟨w',c',h2,h3,h4,h5,h6⟩:=ih (i+1) (w.setCell ⟨B,off+i,none⟩ v) (c.setIfInBounds (off+i) v) h1 (fun u hu=>hv u (by simp[hu])) (by simp;omega);refine⟨w',c',?_,?_,h4,by rw[h5];simp,fun j=>?_⟩
  ·simp only[storeCells,Sem.run_bind,qX];rw[run_store P w _ v _ (hv v (by simp)),hcell];simp only[hfr,Bool.false_eq_true,if_false,Result.andThen_ok];exact h2
  ·refine⟨h3.os,h3.tape,h3.output,?_,fun k hk=>?_⟩
   ·have:=h3.size;simpa using this
   ·rw[h3.block k hk];simp only[World.setCell,Array.getElem?_modify];rw[if_neg (by simpa using Ne.symm hk)]
  ·rw[h6 j,jW];by_cases hj:off+(i+1)<=j/\j<off+(i+1)+r.length
   ·rw[if_pos hj,if_pos (by simp;omega)];have:j-off-i=(j-off-(i+1))+1:=by omega
    rw[this];rfl
   ·rw[if_neg hj];by_cases he:j=off+i
    ·subst he;rw[if_pos ⟨rfl,hlt⟩,if_pos (by simp)];simp
    ·rw[if_neg (fun h=>he h.1),if_neg (by simp;omega)]
section
variable {ds:List Deferred} {n:Nat} {μ0:Lay} {ρ0:RO} {w0:World} {ρ:RO} {μ:Lay} {σ:St} {a:Act} {w:World}
theorem vj {bx:List (Option Bx)} {b:Nat} {x:Bx} (h:bx.getD b none=some x):b<bx.length:=by
 rcases Nat.lt_or_ge b bx.length with hl | hl
 ·exact hl
 ·simp[List.getD,List.getElem?_eq_none hl] at h
theorem Sat.zP (hs:Sat ds n μ0 ρ0 w0 ρ μ σ a w) {b:Nat} {x:Bx} {cs:List AV} {w':World} {o:Obj} (hb:σ.bx.getD b none=some x) (hk:(μ b).2≠0)
  (hw:qH (μ b).1 w w') (hB:w'.heap[(μ b).1]? = some o) (hc:ub ρ (lev μ x) cs (μ b).2 o) (hl:cs.length<=(μ b).2) :
  Sat ds n μ0 ρ0 w0 ρ μ { σ with bx:=σ.bx.set b (some { x with cs:=cs }) } a w':=by
 have hbl:=vj hb;have hbx:=yi hb;have hbox:∀i l,({ σ with bx:=σ.bx.set b (some { x with cs:=cs }) }:St).box i=some l->(i=b/\l=cs)\/(i≠b/\σ.box i=some l):=by
  intro i l h;simp only[St.box] at h;rw[qo] at h;by_cases hi:i=b
  ·rw[if_pos ⟨hi,hbl⟩] at h;exact .inl ⟨hi,by simpa using h.symm⟩
  ·rw[if_neg (fun h=>hi h.1)] at h;exact .inr ⟨hi,h⟩
 have hold:∀i l,({ σ with bx:=σ.bx.set b (some { x with cs:=cs }) }:St).box i=some l->∃l',σ.box i=some l':=by
  intro i l h;rcases hbox i l h with ⟨rfl,_⟩ | ⟨_,h⟩
  ·exact⟨_,hbx⟩
  ·exact⟨_,h⟩
 exact { hs with
  box:=fun i y h=>by
   simp only[qo] at h;by_cases hi:i=b
   ·rw[if_pos ⟨hi,hbl⟩] at h;cases h;subst hi;exact⟨hl,.inr ⟨o,hB,hc⟩⟩
   ·rw[if_neg (fun h=>hi h.1)] at h;obtain ⟨h1,h2⟩:=hs.box i y h;refine⟨h1,?_⟩;rcases h2 with h2 | ⟨o',h3,h5⟩
    ·exact .inl h2
    ·by_cases hz:(μ i).2=0
     ·exact .inl hz
     ·exact .inr ⟨o',by rw[hw.block _ (hs.inj i b _ _ (yi h) hbx hi hz hk)];exact h3,h5⟩
  inj:=fun i j l l' h h'=>by
   obtain ⟨_,g⟩:=hold i l h;obtain ⟨_,g'⟩:=hold j l' h';exact hs.inj i j _ _ g g'
  sep:=fun i l h=>by obtain ⟨_,g⟩:=hold i l h;exact hs.sep i _ g
  own:=fun i l h=>by obtain ⟨_,g⟩:=hold i l h;exact hs.own i _ g
  ro:=fun k o hr=>by
   rw[hw.block k (by rintro rfl;rw[hs.sep b _ hbx hk] at hr;cases hr)];exact hs.ro k o hr
  frame:=fun k hk1 hk2=>by
   rw[hw.block k ?_]
   ·exact hs.frame k hk1 hk2
   ·rintro rfl;rcases Nat.lt_or_ge b n with hb' | hb'
    ·have:=hs.inc b hb';rw[this] at hk hk2;exact hk2 b hb' hk rfl
    ·rcases hs.own b _ hbx hk hb' with h | ⟨c,hc,h0,he⟩
     ·omega
     ·exact hk2 c hc h0 he
  size:=Nat.le_trans hs.size hw.size
  os:=hw.os.trans hs.os
  tape:=hw.tape.trans hs.tape
  output:=hw.output.trans hs.output }
theorem Sat.kill (hs:Sat ds n μ0 ρ0 w0 ρ μ σ a w) (b:Nat):Sat ds n μ0 ρ0 w0 ρ μ { σ with bx:=σ.bx.set b none } a w:=by
 have hbox:∀i l,({ σ with bx:=σ.bx.set b none }:St).box i=some l->i≠b/\σ.box i=some l:=by
  intro i l h;simp only[St.box] at h;rw[qo] at h;by_cases hi:i=b
  ·by_cases hl:b<σ.bx.length
   ·rw[if_pos ⟨hi,hl⟩] at h;cases h
   ·rw[if_neg (fun h=>hl h.2)] at h;rw[hi] at h;simp[List.getD,List.getElem?_eq_none (Nat.le_of_not_lt hl)] at h
  ·rw[if_neg (fun h=>hi h.1)] at h;exact⟨hi,h⟩
 exact { hs with
  box:=fun i y h=>by
   simp only[qo] at h;by_cases hi:i=b/\b<σ.bx.length
   ·rw[if_pos hi] at h;cases h
   ·rw[if_neg hi] at h;exact hs.box i y h
  inj:=fun i j l l' h h'=>hs.inj i j l l' (hbox i l h).2 (hbox j l' h').2
  sep:=fun i l h=>hs.sep i l (hbox i l h).2
  own:=fun i l h=>hs.own i l (hbox i l h).2 }
theorem xg (v:AV):v.norm.cells.length=v.cells.length:=by
 cases v<;>simp[AV.norm,AV.cells,yu]
theorem UK {v:AV} (h:v.zl=true):v.norm.zl=true:=by
 cases v<;>simp_all [AV.norm,AV.zl]
theorem PK {P:Program} {t:TypeId} {x v:AV} {cx cv:Value} {K:St->Prop} (hs:Sat ds n μ0 ρ0 w0 ρ μ σ a w) (hx:Rv ρ (some μ) x cx) (hv:Rv ρ (some μ) v cv) (h:xW P t σ x v K) :
  ∃σ' w',(Instr.storeAt t cx cv).run P w=.ok () w'/\Sat ds n μ0 ρ0 w0 ρ μ σ' a w'/\K σ':=by
 unfold xW at h;split at h
 ·rename_i b off;cases hx with
  |ref =>
   split at h
   ·rename_i bx hb;split at h
    ·rename_i hcond;obtain ⟨hlen,hone,hu⟩:=hcond;obtain ⟨d,hu⟩:∃d,P.underlying t=some d:=by cases hh:P.underlying t<;>simp_all
     have hsol:v.zl=true:=by
      cases v<;>simp_all [AV.zl,yn,AV.cells,AV.one]
     split at h
     ·exact h.elim
     rename_i hm;have hm:bx.mp=none:=by simpa using hm
     have hK:∃u,UD (lev μ bx) (qF bx.cs off u.cells)=none/\off+v.cells.length<=bx.cs.length/\u.cells.length=v.cells.length/\u.zl=true/\Rv ρ (lev μ bx) u cv/\K { σ with bx:=σ.bx.set b (some { bx with cs:=qF bx.cs off u.cells }) }:=by
      split at h
      ·rename_i ha;split at h
       ·rename_i ht;exact⟨v.norm,uH ha _,h.1,xg v,UK hsol,by unfold lev;rw[if_pos ha];exact(hv.zn ht).norm,h.2⟩
       ·exact h.elim
      ·rename_i ha;split at h
       ·rename_i hm2;rw[Bool.and_eq_true,decide_eq_true_eq] at hm2;exact⟨v,uZ (by simpa using hm2.2),hm2.1,rfl,hsol,by unfold lev;rw[if_neg ha];exact hv,h⟩
       ·exact h.elim
     obtain ⟨u,hnm,hle,hul,husol,huv,hK⟩:=hK;obtain ⟨hcl,hcr⟩:=qT hsol hv;obtain ⟨-,hcru⟩:=qT husol huv;have hones:∀u∈cv.cells.toList,u.oneCell'=true:=by
      intro u hu;obtain ⟨j,hj,rfl⟩:=List.getElem_of_mem hu;simp only[Array.length_toList] at hj;have h1:=hcr j;have h2:(v.cells.getD j .undef).one=true:=by
       have hjl:j<v.cells.length:=by omega
       simp only[List.getD,List.getElem?_eq_getElem hjl,Option.getD_some];exact List.all_eq_true.1 hone _ (List.getElem_mem hjl)
      have h3:=Pw h2 h1;simpa[Array.getD,hj] using h3
     have hrun:∀w',(storeCells ⟨(μ b).1,off,none⟩ cv.cells.toList 0).run P w=.ok () w'->(Instr.storeAt t (.pointer (some ⟨(μ b).1,off,none⟩)) cv).run P w=.ok () w':=by
      intro w' hr;simp only[Instr.storeAt,Instr.sureAddr,Sem.run_bind,Sem.run_pure,Result.andThen_ok,storeVar,yD hu];rw[if_neg (by rw[<- hcl,hlen];simp)];simpa using hr
     obtain ⟨hb1,hb2⟩:=hs.box b _ hb;by_cases hk:(μ b).2=0
     ·have hnil:cv.cells.toList=[]:=by
       apply List.eq_nil_of_length_eq_zero;rw[Array.length_toList,<- hcl];omega
      refine⟨_,w,hrun w (by rw[hnil];rfl),?_,hK⟩;have hcs:qF bx.cs off u.cells=bx.cs:=by
       have h1:u.cells=[]:=List.eq_nil_of_length_eq_zero (by omega);rw[h1];simp[qF]
      rw[hcs];have:(σ.bx.set b (some { bx with cs:=bx.cs }))=σ.bx:=by
       apply List.ext_getElem?;intro i;by_cases hi:i=b
       ·subst hi;have hl:=vj hb;simp only[List.getElem?_set_self hl];have:σ.bx[i]? = some (some bx):=by
         simp only[List.getD] at hb;cases hg:σ.bx[i]? with
         |none=>simp[hg] at hb
         |some y=>simp only[hg,Option.getD_some] at hb;rw[hb]
        rw[this]
       ·rw[List.getElem?_set_ne (Ne.symm hi)]
      rw[this];exact hs
     ·rcases hb2 with h0 | ⟨o,h3,h5⟩
      ·exact absurd h0 hk
      ·obtain ⟨c,e,rfl,h4,h5⟩:=h5.get (by rw[uI];exact hm);obtain ⟨w',c',g1,g2,g3,g4,g5⟩:=vX (P:=P) (off:=off) cv.cells.toList 0 w c h3 hones (by simp;omega);refine⟨_,w',hrun w' g1,hs.zP hb hk g2 g3 (.cells hnm (by rw[g4,h4]) fun j=>?_) (by rw[wE (by omega)];exact hb1),hK⟩;rw[Yq (by omega),g5 j,hul];simp only[Nat.add_zero,Nat.sub_zero,Array.length_toList,<- hcl];split
       ·rw[ja];exact hcru _
       ·exact h5 j
    ·exact h.elim
   ·exact h.elim
 ·exact h.elim
theorem q7 {P:Program} {k:IntKind} {i:Int} {y:Nat} {code:BoundsCode} (h0:0<=i) (h1:i<=y) (w:World):(Instr.sliceBound (.int k i) y code).run P w=.ok i.toNat w:=by
 simp only[Instr.sliceBound,asIntOf,Sem.run_bind,Sem.run_pure,Result.andThen_ok];rw[if_pos ⟨h0,h1⟩];rfl
theorem vM {P:Program} {lo hi:Option AV} {clo chi:Option Value} {isS:Bool} {len cap:Nat} {k k':IntKind} {l h:Int} {p q:Bool}
  (hl:bnd lo 0=some (k,l,p)) (hh:bnd hi len=some (k',h,q))
  (hlo:(lo=none/\clo=none)\/∃v cv,lo=some v/\clo=some cv/\Rv ρ (some μ) v cv) (hhi:(hi=none/\chi=none)\/∃v cv,hi=some v/\chi=some cv/\Rv ρ (some μ) v cv)
  (h0:0<=l) (h1:l<=h) (h2:h<=cap) (w:World):(Instr.sliceBounds isS len cap clo chi none).run P w=.ok (l.toNat,h.toNat,cap) w:=by
 have h0h:0<=h:=by omega
 rcases hhi with ⟨rfl,rfl⟩ | ⟨v,cv,rfl,rfl,hv⟩
 ·simp only[bnd,Option.some.injEq,Prod.mk.injEq] at hh;obtain ⟨-,rfl,-⟩:=hh;rcases hlo with ⟨rfl,rfl⟩ | ⟨u,cu,rfl,rfl,hu⟩
  ·simp only[bnd,Option.some.injEq,Prod.mk.injEq] at hl;obtain ⟨-,rfl,-⟩:=hl;simp[Instr.sliceBounds]
  ·have:=yA hl hu;subst this;simp[Instr.sliceBounds,q7 h0 h1]
 ·have:=yA hh hv;subst this;rcases hlo with ⟨rfl,rfl⟩ | ⟨u,cu,rfl,rfl,hu⟩
  ·simp only[bnd,Option.some.injEq,Prod.mk.injEq] at hl;obtain ⟨-,rfl,-⟩:=hl;simp[Instr.sliceBounds,q7 h0h h2]
  ·have:=yA hl hu;subst this;simp[Instr.sliceBounds,q7 h0h h2,q7 (y:=h.toNat) h0 (by omega)]
end
section
variable {ds:List Deferred} {n:Nat} {μ0:Lay} {ρ0:RO} {w0:World} {ρ:RO} {μ:Lay} {σ:St} {a:Act} {w:World}
def RvQ (ρ:RO) (μ:Option Lay) (o:Option AV) (c:Option Value):Prop:=(o=none/\c=none)\/∃v cv,o=some v/\c=some cv/\Rv ρ μ v cv
theorem Rv.zH {k:Nat} {m:Nat} {es:List AV} {B o cap:Nat} {c:Nat->Nat->Value} (l h:Nat) (hl:l<=h) (hh:h<=es.length) (_hcap:es.length<=cap)
  (hk:∀i,i<es.length->(es.getD i .undef).cells.length=k)
  (hc:∀i (_:i<es.length) j,j<k->ρ.cell B (o+i*k+j)=some (c i j))
  (hr:∀i j,Rv ρ none ((es.getD i .undef).cells.getD j .undef) (c i j)) (x:Option Lay) (cap':Nat) (hcap':h-l<=cap') (hm:m≠0) (h2:m=2->cap'=h-l) :
  Rv ρ x (.slc m ((es.drop l).take (h-l))) (.slice (some ⟨B,o+l*k,none⟩) (h-l) cap'):=by
 have hlen:((es.drop l).take (h-l)).length=h-l:=by simp;omega
 have hg:∀i,i<h-l->((es.drop l).take (h-l)).getD i .undef=es.getD (l+i) .undef:=by
  intro i hi;simp[List.getD,hi]
 have:=Rv.slc (ρ:=ρ) x m ((es.drop l).take (h-l)) B (o+l*k) cap' k (fun i j=>c (l+i) j) hm (by omega) (by rw[hlen];exact h2)
  (fun i hi=>by rw[hg i (by omega)];exact hk _ (by omega))
  (fun i hi j hj=>by
   have:=hc (l+i) (by omega) j hj;rw[Nat.add_mul] at this;rw[show o+l*k+i*k+j=o+(l*k+i*k)+j by omega];exact this)
  (fun i j=>by
   rcases Nat.lt_or_ge i (h-l) with hi | hi
   ·rw[hg i hi];exact hr _ _
   ·rw[show ((es.drop l).take (h-l)).getD i .undef=.undef from yH (by omega)];cases j with
    |zero=>exact .undef ..
    |succ j=>exact .undef ..)
 rw[hlen] at this;exact this
theorem PE {P:Program} {t:TypeId} {x:AV} {cx:Value} {lo hi mx:Option AV} {clo chi cmx:Option Value} {K:AV->Prop} (hs:Sat ds n μ0 ρ0 w0 ρ μ σ a w) (hx:Rv ρ (some μ) x cx)
  (hlo:RvQ ρ (some μ) lo clo) (hhi:RvQ ρ (some μ) hi chi) (hmx:RvQ ρ (some μ) mx cmx) (h:kA P t σ x lo hi mx K) :
  ∃v cv,(Instr.sliceAt t cx clo chi cmx).run P w=.ok cv w/\Rv ρ (some μ) v cv/\K v:=by
 unfold kA at h;split at h
 ·rename_i e hu;split at h
  ·exact h.elim
  rename_i hne;obtain ⟨de,hde⟩:∃d,P.underlying e=some d:=by cases hh:P.underlying e<;>simp_all
  have hat:∀cv,(Instr.slice t cx clo chi cmx).run P w=.ok cv w->(Instr.sliceAt t cx clo chi cmx).run P w=.ok cv w:=by
   intro cv hr;simp only[Instr.sliceAt,Sem.run_bind,run_underlying hu,Result.andThen_ok];exact hr
  split at h
  ·rename_i m es;have hsl:∃p cap,cx=.slice p es.length cap/\es.length<=cap:=by
    cases hx with
    |nilslc=>exact⟨_,_,rfl,Nat.le_refl _⟩
    |eslc=>exact⟨_,_,rfl,Nat.le_refl _⟩
    |slc _ _ _ B o cap k c hm hcap h2 hk hc hh=>exact⟨_,_,rfl,hcap⟩
   obtain ⟨p,cap,rfl,hcap⟩:=hsl;split at h
   ·rename_i k1 l f1 k2 hh2 f2 e1 e2;rcases hmx with ⟨-,rfl⟩ | ⟨v,cv,hmm,-⟩
    case inr=>cases hmm
    have hb:0<=l/\l<=hh2/\hh2<=es.length/\(lo=none\/yk (P.cellsOf e) es)/\K (.slc 3 ((es.drop l.toNat).take (hh2.toNat-l.toNat))):=by
     split at h
     ·simp only[bnd,Option.some.injEq,Prod.mk.injEq] at e1;obtain ⟨-,rfl,-⟩:=e1;exact⟨by omega,h.1.1,h.1.2,.inl rfl,by simpa using h.2⟩
     ·exact⟨h.1.1,h.1.2.1,h.1.2.2.1,.inr h.1.2.2.2,h.2⟩
    obtain ⟨g0,g1,g2,g3,hK⟩:=hb;have hrun:=vM (P:=P) (ρ:=ρ) (μ:=μ) (isS:=true) (cap:=cap) e1 e2 hlo hhi g0 g1 (by omega) w;obtain ⟨ln,rfl⟩:∃k:Nat,l=k:=⟨l.toNat,by omega⟩;obtain ⟨hn,rfl⟩:∃k:Nat,hh2=k:=⟨hh2.toNat,by omega⟩;simp only[Int.toNat_natCast] at *;refine⟨_,.slice (if cap=ln then p else p.map (·.add (ln*P.cellsOf e))) (hn-ln) (cap-ln),hat _ ?_,?_,hK⟩
    ·simp only[Instr.slice,Sem.run_bind,run_underlying hu,Result.andThen_ok,hrun,yD hde];rfl
    ·cases hx with
     |nilslc =>
      have:ln=0/\hn=0:=by simp at g2;omega
      obtain ⟨rfl,rfl⟩:=this;simp only[List.drop_nil,List.take_nil,Option.map_none,ite_self];exact .nilslc _ 3
     |eslc _ _ a0 =>
      have:ln=0/\hn=0:=by simp at g2;omega
      obtain ⟨rfl,rfl⟩:=this;simp only[List.drop_nil,List.take_nil];exact .eslc _ 3 a0 (by simp)
     |slc _ _ _ B o _ k c hm _ h2 hk hc hh =>
      by_cases hz:es=[]
      ·subst hz;have:ln=0/\hn=0:=by simp at g2;omega
       obtain ⟨rfl,rfl⟩:=this;have:=Rv.zH (ρ:=ρ) (m:=3) (k:=k) 0 0 (Nat.le_refl _) (by simp) hcap hk hc hh (some μ) (cap-0) (by omega) (by simp) (by simp);simp only[Nat.zero_mul,Nat.add_zero] at this;split
       ·exact this
       ·simp only[Option.map_some,Nat.zero_mul];rw[qX];exact this
      ·have hpos:0<es.length:=List.length_pos_iff.2 hz;have hkl:ln=0\/k=P.cellsOf e:=by
        rcases g3 with hlo' | hel
        ·left;subst hlo';simp only[bnd,Option.some.injEq,Prod.mk.injEq] at e1;omega
        ·right;rw[<- hk 0 hpos];have:es.getD 0 .undef∈es:=by
          simp only[List.getD,List.getElem?_eq_getElem hpos,Option.getD_some];exact List.getElem_mem hpos
         exact hel _ this
       have hmul:ln*P.cellsOf e=ln*k:=by rcases hkl with h | h<;>simp[h]
       have:=Rv.zH (ρ:=ρ) (m:=3) (k:=k) ln hn (by omega) (by omega) hcap hk hc hh (some μ) (cap-ln) (by omega) (by simp) (by simp);by_cases hcl:cap=ln
       ·rw[if_pos hcl];have he0:hn-ln=0:=by omega
        have hnil:(es.drop ln).take (hn-ln)=[]:=by rw[he0];simp
        rw[hnil,he0,show cap-ln=0 by omega];exact Rv.slc (ρ:=ρ) (some μ) 3 [] B o 0 0 (fun _ _=>Go.undef) (by simp) (by simp) (by simp) (by simp) (by simp) (fun i j=>by cases j<;>exact .undef ..)
       ·rw[if_neg hcl];simp only[Option.map_some];rw[qX,hmul];exact this
   ·rename_i k1 l f1 k2 hh2 f2 mv e1 e2;split at h
    ·rename_i k3 mm f3 hiv hm3;obtain ⟨⟨g0,g1,g2⟩,hK⟩:=h;rcases hlo with ⟨-,rfl⟩ | ⟨v,cv,hmm,-⟩
     case inr=>cases hmm
     rcases hmx with ⟨hmm,-⟩ | ⟨v,cv,hmm,rfl,hv⟩
     case inl=>cases hmm
     cases hmm;rcases hhi with ⟨hmm,-⟩ | ⟨v',cv',hmm,rfl,hv'⟩
     case inl=>cases hmm
     cases hmm;have i1:=yA hm3 hv;have i2:=yA e2 hv';subst i1 i2 g1;obtain ⟨hn,rfl⟩:∃k:Nat,hh2=k:=⟨hh2.toNat,by omega⟩;simp only[Int.toNat_natCast] at *;have hrun:(Instr.sliceBounds true es.length cap none (some (.int k2 hn)) (some (.int k3 hn))).run P w=.ok (0,hn,hn) w:=by
      simp[Instr.sliceBounds,q7 (k:=k3) (i:=(hn:Int)) (y:=cap) (by omega) (by omega),q7 (k:=k2) (i:=(hn:Int)) (y:=hn) (by omega) (by omega)]
     refine⟨_,.slice (if hn=0 then p else p.map (·.add (0*P.cellsOf e))) (hn-0) (hn-0),hat _ ?_,?_,hK⟩
     ·simp only[Instr.slice,Sem.run_bind,run_underlying hu,Result.andThen_ok,hrun,yD hde];rfl
     ·cases hx with
      |nilslc =>
       have:hn=0:=by simp at g2;omega
       subst this;simp only[List.take_nil,if_true];exact .nilslc _ 2
      |eslc _ _ a0 =>
       have:hn=0:=by simp at g2;omega
       subst this;simp only[List.take_nil];exact .eslc _ 2 a0 (by simp)
      |slc _ _ _ B o _ k c hm _ h2 hk hc hh =>
       have:=Rv.zH (ρ:=ρ) (m:=2) (k:=k) 0 hn (by omega) (by omega) hcap hk hc hh (some μ) hn (by omega) (by simp) (by simp);simp only[Nat.zero_mul,Nat.add_zero,List.drop_zero,Nat.sub_zero] at this ⊢;split
       ·exact this
       ·simp only[Option.map_some];rw[qX];exact this
    ·exact h.elim
   ·exact h.elim
  ·rename_i b off len esz ag;split at h
   ·rename_i k1 l f1 k2 hh2 f2 e1 e2;rcases hmx with ⟨-,rfl⟩ | ⟨v,cv,hmm,-⟩
    case inr=>cases hmm
    obtain ⟨⟨g0,g1,g2,g3,g4⟩,hK⟩:=h;cases hx with
    |aslc _ _ _ _ _ _ cap hcap hr =>
     have hrun:=vM (P:=P) (ρ:=ρ) (μ:=μ) (isS:=true) (cap:=cap) e1 e2 hlo hhi g0 g1 (by omega) w;obtain ⟨ln,rfl⟩:∃k:Nat,l=k:=⟨l.toNat,by omega⟩;obtain ⟨hn,rfl⟩:∃k:Nat,hh2=k:=⟨hh2.toNat,by omega⟩;simp only[Int.toNat_natCast] at *;refine⟨_,.slice (some ⟨(μ b).1,off+ln*esz,none⟩) (hn-ln) (cap-ln),hat _ ?_,?_,hK⟩
     ·simp only[Instr.slice,Sem.run_bind,run_underlying hu,Result.andThen_ok,hrun,yD hde];rw[if_neg (by omega)];simp only[Option.map_some,Sem.run_pure];rw[qX,g4]
     ·refine .aslc μ b _ _ esz ag _ (by omega) ?_;have:ln*esz+(cap-ln)*esz=cap*esz:=by rw[<- Nat.add_mul];congr 1;omega
      omega
    |aslc0=>omega
   ·exact h.elim
  ·exact h.elim
 ·rename_i nn e hu;split at h
  ·rename_i k1 l k2 hh2 e1 e2;rcases hmx with ⟨-,rfl⟩ | ⟨v,cv,hmm,-⟩
   case inr=>cases hmm
   split at h
   ·rename_i hcond;obtain ⟨g0,g1,g2,g3,g4⟩:=hcond;obtain ⟨de,hde⟩:∃d,P.underlying e=some d:=by cases hh:P.underlying e<;>simp_all
    split at h
    ·rename_i b off;split at h
     ·rename_i cs hb;split at h
      ·rename_i hfit;cases hx with
       |ref =>
        have hrun:=vM (P:=P) (ρ:=ρ) (μ:=μ) (isS:=false) (cap:=nn) e1 e2 hlo hhi g0 g1 g2 w;obtain ⟨ln,rfl⟩:∃k:Nat,l=k:=⟨l.toNat,by omega⟩;obtain ⟨hn,rfl⟩:∃k:Nat,hh2=k:=⟨hh2.toNat,by omega⟩;simp only[Int.toNat_natCast] at *;refine⟨_,.slice (some ⟨(μ b).1,off+ln*P.cellsOf e,none⟩) (hn-ln) (nn-ln),?_,?_,h⟩
        ·simp only[Instr.sliceAt,Sem.run_bind,run_underlying hu,Result.andThen_ok,Instr.sureAddr,Sem.run_pure,hrun,yD hde];rw[if_neg (by omega),qX]
        ·refine .aslc μ b _ _ _ _ _ (by omega) ?_;obtain ⟨y,hy,rfl⟩:=yK hb;have h1:=(hs.box b y hy).len;have:ln*P.cellsOf e+(nn-ln)*P.cellsOf e=nn*P.cellsOf e:=by rw[<- Nat.add_mul];congr 1;omega
         omega
      ·exact h.elim
     ·exact h.elim
    ·exact h.elim
   ·exact h.elim
  ·exact h.elim
 ·rename_i hu;split at h
  ·rename_i s;split at h
   ·rename_i k1 l f1 k2 hh2 f2 e1 e2;rcases hmx with ⟨-,rfl⟩ | ⟨v,cv,hmm,-⟩
    case inr=>cases hmm
    obtain ⟨⟨g0,g1,g2⟩,hK⟩:=h;cases hx;have hrun:=vM (P:=P) (ρ:=ρ) (μ:=μ) (isS:=false) (len:=s.size) (cap:=s.size) e1 e2 hlo hhi g0 g1 g2 w;refine⟨_,_,?_,.str ..,hK⟩;simp only[Instr.sliceAt,Sem.run_bind,run_underlying hu,Result.andThen_ok];simp only[Instr.slice,Sem.run_bind,run_underlying hu,Result.andThen_ok,hrun,Option.isSome_none,Bool.false_eq_true,if_false,Sem.run_pure]
   ·exact h.elim
  ·exact h.elim
 ·exact h.elim
end
end Go.Proofs.YtkojpnkknehhmaaGreatDoor

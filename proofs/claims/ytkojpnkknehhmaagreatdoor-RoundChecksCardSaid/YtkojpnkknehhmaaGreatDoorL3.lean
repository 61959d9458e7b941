/- What is followed may be followed to more; and slots that code does not write are as they were. Heads of loops and joins: what is known there is less than what was known before. Loops by what holds at their heads; paths that join. -/
import Derived.Test.YtkojpnkknehhmaaGreatDoorW0
namespace Go.Proofs.YtkojpnkknehhmaaGreatDoor
open Go.RowKit
def FrD (D:Nat->Prop) (σ σ':St):Prop:=σ'.sl.length=σ.sl.length/\∀t,¬ D t->σ'.sl.getD t .undef=σ.sl.getD t .undef
theorem FrD.refl (D:Nat->Prop) (σ:St):FrD D σ σ:=⟨rfl,fun _ _=>rfl⟩
theorem FrD.trans {D:Nat->Prop} {σ τ υ:St} (h:FrD D σ τ) (h':FrD D τ υ):FrD D σ υ:=⟨h'.1.trans h.1,fun t ht=>(h'.2 t ht).trans (h.2 t ht)⟩
theorem FrD.weak {D D':Nat->Prop} {σ τ:St} (h:FrD D σ τ) (hd:∀t,D t->D' t):FrD D' σ τ:=⟨h.1,fun t ht=>h.2 t fun hh=>ht (hd t hh)⟩
def Dst (d:Option Nat) (t:Nat):Prop:=d=some t
theorem FrD.put (σ:St) (d:Option Nat) (v:AV):FrD (Dst d) σ (σ.put d v):=by
 cases d with
 |none=>exact .refl ..
 |some d =>
  refine⟨by simp[St.put],fun t ht=>?_⟩;have:d≠t:=fun h=>ht (by rw[h];rfl)
  simp only[St.put,List.getD,List.getElem?_set_ne this]
theorem FrD.bx (σ:St) (D:Nat->Prop) (bx:List (Option Bx)):FrD D σ { σ with bx:=bx }:=⟨rfl,fun _ _=>rfl⟩
theorem Ang.mono {α:Type} {F:(α->Prop)->Prop} (hF:Ang F) {K K':α->Prop} (h:∀v,K v->K' v) (hk:F K):F K':=by
 obtain ⟨v,h1,h2⟩:=hF K hk;exact h2 K' (h v h1)
theorem uM {g:Nat->Option (List AV)} {l:List (Nat × Nat × Nat × Bool)} {K K':Prop} (h:K->K') (hk:q7 g l K):q7 g l K':=by
 obtain ⟨h1,h2⟩:=UO hk;exact h2 g K' (fun _ _=>rfl) (h h1)
mutual
theorem XI:∀(v:AV) (k:AV->Prop),xQ v k=k v
 |.undef,_ | .tt,_ | .ff,_ | .bool _,_ | .lit _ _,_ | .int _ _,_ | .str _,_ | .nilp,_ | .ref _ _,_ | .slc _ _,_ | .aslc _ _ _ _ _,_ | .nilfn,_ | .nilif,_ | .map _,_ | .nilmap,_ | .yld _,_=>by simp only[xQ]
 |.eptr cs off,k=>by simp only[xQ,jT cs]
 |.fn f a c,k=>by simp only[xQ,jT a,jT c]
 |.iface t v,k=>by simp only[xQ,XI v]
 |.agg cs,k=>by simp only[xQ,jT cs]
 |.tup cs,k=>by simp only[xQ,jT cs]
theorem jT:∀(l:List AV) (k:List AV->Prop),kU l k=k l
 |[],_=>by simp only[kU]
 |x::r,k=>by simp only[kU,XI x,jT r]
end
theorem P1 (keep:List Nat):∀(l:List AV) (i:Nat) (k:List AV->Prop),Y7 keep i l k=k (xv (fun j v=>if keep.contains j then v else .undef) i l):=by
 intro l;induction l with
 |nil=>intro i k;rfl
 |cons x r ih =>
  intro i k;simp only[Y7,XI,ih,xv];split<;>rfl
theorem P0:∀(l:List (Option Bx)) (k:List (Option Bx)->Prop),vw l k=k l:=by
 intro l;induction l with
 |nil=>intro k;rfl
 |cons x r ih =>
  intro k;cases x with
  |none=>simp only[vw,ih]
  |some x =>
   obtain ⟨t,a,cs⟩:=x;cases a<;>simp only[vw,ih,jT]
theorem wR (keep:List Nat) (σ:St) (K:St->Prop):Ys keep σ K=K (clean keep σ):=by
 simp only[Ys,P1,P0,clean,Um]
section
variable {P:Program} {S:Specs} {n:Nat}
theorem wk {d:Nat} {x:Bx} {p:AV} {σ:St} {K K':St->Prop} (h:∀σ',FrD (Dst (some d)) σ σ'->K σ'->K' σ') (hk:qU n d x p σ K):qU n d x p σ K':=by
 unfold qU at *;split at hk
 ·rename_i hc;rw[if_pos hc];exact h _ ((FrD.put σ (some d) p).trans (.bx _ _ _)) hk
 ·exact hk.elim
theorem Lp {f:FuncId} {args:List AV} {d:Option Nat} {σ:St} {K K':St->Prop} (h:∀σ',FrD (Dst d) σ σ'->K σ'->K' σ') (hk:jH P S n f args d σ K):jH P S n f args d σ K':=by
 unfold jH at *;dsimp only at *;split at hk
 case h_2=>exact hk.elim
 rename_i bs fn hb hf;try simp only[hb,hf]
 split at hk
 ·exact hk.elim
 rename_i hc;rw[if_neg hc];refine uM (fun hk=>?_) hk;refine uR.mono (fun v hk=>?_) hk;refine(Y6 _).mono (fun O hk=>⟨hk.1,?_⟩) hk;have hk:=hk.2;split at hk
 ·rename_i h1;rw[if_pos h1];exact h _ ((FrD.bx σ _ _).trans (.put _ d _)) hk
 ·rename_i h1;rw[if_neg h1];split at hk
  ·rename_i h2;rw[if_pos h2];exact h _ ((FrD.bx σ _ _).trans (.put _ d _)) hk
  ·exact hk.elim
def kF (il:vX):Prop:=∀f args σ (K K':AV->St->Prop),(∀v σ',σ'.sl=σ.sl->K v σ'->K' v σ')->il f args σ K->il f args σ K'
theorem WN (hI:kF S.inl) {f:FuncId} {args:List AV} {d:Option Nat} {σ:St} {K K':St->Prop} (h:∀σ',FrD (Dst d) σ σ'->K σ'->K' σ') (hk:vP P S n f args d σ K):vP P S n f args d σ K':=by
 unfold vP at *;split at hk
 ·rename_i hc;rw[if_pos hc];refine hI f args σ _ _ (fun v σ' hsl hk=>?_) hk;split at hk
  ·rename_i hb;rw[if_pos hb];refine h _ ?_ hk;have:FrD (Dst d) σ σ':=⟨by rw[hsl],fun t _=>by rw[hsl]⟩;exact this.trans (.put _ d _)
  ·exact hk.elim
 ·rename_i hc;rw[if_neg hc];exact Lp h hk
theorem Mn {ts:List TypeId} {b len:Nat} {K K':Nat->AV->Prop} (h:∀k v,K k v->K' k v) (hk:Ku ts b len K):Ku ts b len K':=by
 unfold Ku at *;split at hk
 ·exact h _ _ hk
 ·obtain ⟨m,h1,h2⟩:=hk;exact⟨m,h1,h _ _ h2⟩
 ·exact hk.elim
theorem JS {f:FuncId} {b len:Nat} {d:Option Nat} {σ:St} {K K':St->Prop} (h:∀σ',FrD (Dst d) σ σ'->K σ'->K' σ') (hk:Ml P S f b len d σ K):Ml P S f b len d σ K':=by
 unfold Ml at *;split at hk
 ·split at hk
  ·rename_i hx ha;try simp only[hx]
   rw[if_pos ha];refine Mn (fun k v hq=>?_) hk;obtain ⟨zs,zs',h1,h2⟩:=hq;refine⟨zs,zs',h1,h _ ?_ h2⟩;have:FrD (Dst d) σ { σ with bx:=σ.bx.set b (some { (by assumption:Bx) with cs:=zs'.map (AV.int .i64) }) }:=⟨rfl,fun t _=>rfl⟩;exact FrD.trans ⟨rfl,fun t _=>rfl⟩ (.put _ d _)
  ·exact hk.elim
 ·exact hk.elim
theorem Lq {f:FuncId} {args:List AV} {d:Option Nat} {σ:St} {K K':St->Prop} (h:∀σ',FrD (Dst d) σ σ'->K σ'->K' σ') (hk:Y0 P S n f args d σ K):Y0 P S n f args d σ K':=by
 unfold Y0 at *;split at hk
 ·rename_i b len hm;try simp only[hm]
  exact JS h hk
 rename_i hm;try simp only[hm]
 split at hk
 ·split at hk
  ·rename_i ht;obtain ⟨es,h1,h2⟩:=hk;try simp only
   rw[if_pos ht];exact⟨es,h1,wk h h2⟩
  ·exact hk.elim
 ·exact hk.elim
theorem Lr {f:FuncId} {args:List AV} {d:Option Nat} {σ:St} {K K':St->Prop} (h:∀σ',FrD (Dst d) σ σ'->K σ'->K' σ') (hk:ug P S n f args d σ K):ug P S n f args d σ K':=by
 unfold ug at *;split at hk
 ·rename_i hc;try simp only[hc]
  split at hk
  ·split at hk
   ·rename_i h1 h2 h3;try simp only[h1,h2,h3]
    exact⟨hk.1,h _ (.put σ d _) hk.2⟩
   ·exact hk.elim
  ·exact hk.elim
 ·rename_i hc;try simp only[hc]
  exact Lq h hk
theorem Uh {t:TypeId} {σ:St} {x:AV} {K K':AV->Prop} (h:∀v,K v->K' v) (hk:vR P t σ x K):vR P t σ x K':=by
 obtain ⟨v,h1,h2⟩:=Wa hk;exact h2 σ (fun _ _=>rfl) K' (h v h1)
theorem MI {t:TypeId} {σ:St} {a v:AV} {K K':St->Prop} (h:∀σ',FrD (fun _=>False) σ σ'->K σ'->K' σ') (hk:xS P t σ a v K):xS P t σ a v K':=by
 obtain ⟨b,x,_,_,h1,h2⟩:=Xo hk;exact h2 σ (fun _ _=>rfl) K' (h _ (.bx _ _ _) h1)
theorem Pc {t:TypeId} {σ:St} {x:AV} {lo hi mx:Option AV} {K K':AV->Prop} (h:∀v,K v->K' v) (hk:kz P t σ x lo hi mx K):kz P t σ x lo hi mx K':=by
 unfold kz at *;repeat' split at hk
 all_goals first
  |exact hk.elim
  |(simp_all;done)
  |(obtain ⟨h1,h2⟩:=hk;simp_all;done)
  |(obtain ⟨⟨h0,h1,h1'⟩,h2⟩:=hk;subst h1;simp_all;done)
theorem UN {k:Nat} {σ:St} {x:AV} {K K':Nat->List AV->Prop} (h:∀m l,K m l->K' m l) (hk:qw σ k x K):qw σ k x K':=by
 unfold qw at *;split at hk
 ·exact⟨hk.1,h _ _ hk.2⟩
 ·split at hk
  ·rename_i hb;(try simp only[hb]);exact⟨hk.1,h _ _ hk.2⟩
  ·exact hk.elim
 ·exact hk.elim
theorem PF {ts:List TypeId} {s x:AV} {d:Nat} {σ:St} {K K':St->Prop} (h:∀σ',FrD (Dst (some d)) σ σ'->K σ'->K' σ') (hk:jQ P n ts s x d σ K):jQ P n ts s x d σ K':=by
 unfold jQ at *;split at hk
 ·split at hk
  ·rename_i h1 h2;try simp only[h1,h2]
   split at hk
   ·exact hk.elim
   ·rename_i hc;rw[if_neg hc];refine UN (fun m l hk=>?_) hk;split at hk
    ·exact⟨hk.1,wk h hk.2⟩
    ·exact⟨hk.1,wk h hk.2⟩
    ·split at hk
     ·rename_i hb;try simp only[hb]
      split at hk
      ·rename_i h3;rw[if_pos h3];exact⟨hk.1,wk (fun σ' h1 h2=>h σ' (.trans ⟨rfl,fun _ _=>rfl⟩ h1) h2) hk.2⟩
      ·exact hk.elim
     ·exact hk.elim
    ·exact hk.elim
  ·exact hk.elim
 ·exact hk.elim
theorem SE {t:TypeId} {σ:St} {m k:AV} {ok:Bool} {K K':AV->Prop} (h:∀v,K v->K' v) (hk:kW P t σ m k ok K):kW P t σ m k ok K':=by
 unfold kW at *;split at hk
 ·split at hk
  ·split at hk
   ·exact⟨hk.1,hk.2.1,(uT _).mono (fun v ⟨f,h1,h2⟩=>⟨f,h1,h _ h2⟩) hk.2.2⟩
   ·exact hk.elim
  ·exact hk.elim
 ·exact hk.elim
theorem JW {t:TypeId} {σ:St} {m k v:AV} {K K':St->Prop} (h:∀σ',FrD (fun _=>False) σ σ'->K σ'->K' σ') (hk:Mw P t σ m k v K):Mw P t σ m k v K':=by
 unfold Mw at *;split at hk
 ·split at hk
  ·split at hk
   ·obtain ⟨h1,h2,es',h3,h4⟩:=hk;exact⟨h1,h2,es',h3,h _ (.bx _ _ _) h4⟩
   ·exact hk.elim
  ·exact hk.elim
 ·exact hk.elim
theorem Kp {d:Nat} {t:TypeId} {σ:St} {K K':St->Prop} (h:∀σ',FrD (Dst (some d)) σ σ'->K σ'->K' σ') (hk:TM n d t σ K):TM n d t σ K':=by
 unfold TM at *;split at hk
 ·rename_i hc;rw[if_pos hc];exact h _ ((FrD.put σ (some d) _).trans (.bx _ _ _)) hk
 ·exact hk.elim
theorem PC (hI:kF S.inl) {o:Oper} {σ:St} {K K':St->Prop} (h:∀σ',FrD (Dst o.dst) σ σ'->K σ'->K' σ') (hk:aop P S n o σ K):aop P S n o σ K':=by
 have hp:∀v,K (σ.put o.dst v)->K' (σ.put o.dst v):=fun v=>h _ (.put σ o.dst v)
 unfold aop at *;split at hk
 ·split at hk
  ·rename_i hd _;rw[hd] at h;exact wk h hk
  ·exact hk.elim
 ·split at hk
  ·rename_i hd;split at hk
   ·rename_i hc;(try simp only);rw[if_pos hc];rw[hd] at h;exact wk h hk
   ·exact hk.elim
  ·exact hk.elim
 ·split at hk
  ·split at hk
   ·split at hk
    ·rename_i hc;try simp only
     rw[if_pos hc];split at hk
     ·split at hk
      ·rename_i hc2;rw[if_pos hc2];split at hk
       ·rename_i d hd;have hd:o.dst=some d:=by
         unfold Oj at hd;split at hd
         ·rename_i d' hd';split at hd<;>simp_all
         ·cases hd
        rw[hd] at h;exact wk h hk
       ·exact hp _ hk
      ·exact hk.elim
     ·exact hk.elim
    ·exact hk.elim
   ·exact hk.elim
  ·exact hk.elim
 ·split at hk
  ·rename_i hd _;rw[hd] at h;exact Kp h hk
  ·exact hk.elim
 ·exact SE (fun v hk=>hp v hk) hk
 ·exact JW (fun σ' h1 h2=>h _ ((h1.weak fun _=>False.elim).trans (.put σ' o.dst _)) h2) hk
 ·exact Uh (fun v hk=>hp v hk) hk
 ·exact MI (fun σ' h1 h2=>h _ ((h1.weak fun _=>False.elim).trans (.put σ' o.dst _)) h2) hk
 ·exact uz.mono (fun v hk=>hp v hk) hk
 ·exact Ub.mono (fun v hk=>hp v hk) hk
 ·exact Pc (fun v hk=>hp v hk) hk
 ·split at hk
  ·exact hp _ hk
  ·split at hk
   ·exact hp _ hk
   ·exact hk.elim
 ·split at hk
  ·rename_i hd;split at hk
   ·split at hk
    ·rename_i hc;try simp only
     rw[if_pos hc];rw[hd] at h;exact⟨hk.1,wk h hk.2⟩
    ·exact hk.elim
   ·exact hk.elim
  ·exact hk.elim
 ·exact uh.mono (fun v hk=>hp v hk) hk
 ·exact uh.mono (fun v hk=>hp v hk) hk
 ·exact uh.mono (fun v hk=>hp v hk) hk
 ·exact uh.mono (fun v hk=>hp v hk) hk
 ·split at hk
  ·exact fun b hb=>hp _ (hk b hb)
  ·split at hk
   ·exact hp _ hk
   ·exact hk.elim
 ·split at hk
  ·split at hk
   ·rename_i hc;rw[if_pos hc];exact Lr h hk
   ·rename_i hc;rw[if_neg hc];exact WN hI h hk
  ·split at hk
   ·exact WN hI h hk
   ·exact hk.elim
  ·split at hk
   ·split at hk
    ·rename_i hm;(try simp only[hm]);exact WN hI h hk
    ·exact hk.elim
   ·exact hk.elim
  ·split at hk
   ·rename_i hs hd;rw[hd] at h;(try simp only[hs]);exact PF h hk
   ·exact hk.elim
  ·split at hk
   ·exact hp _ hk
   ·exact hk.elim
 ·split at hk
  ·exact hp _ hk
  ·exact hk.elim
theorem YY {b:Bool} {A A' B B':Prop} (ha:A->A') (hb:B->B') (h:br b A B):br b A' B':=⟨fun x=>ha (h.1 x),fun x=>hb (h.2 x)⟩
def Yp (l:List (Option Nat)) (t:Nat):Prop:=some t∈l
theorem Je (hI:kF S.inl) {dsts:List (Option Nat)}:∀(ops:List Oper) {σ:St} {K K':St->Prop},(∀o∈ops,o.dst∈dsts)->(∀σ',FrD (Yp dsts) σ σ'->K σ'->K' σ')->wX P S n dsts ops σ K->wX P S n dsts ops σ K':=by
 intro ops;induction ops with
 |nil=>intro σ K K' _ h hk;exact h _ (.refl ..) hk
 |cons o r ih =>
  intro σ K K' hd h hk;have hr:∀o∈r,o.dst∈dsts:=fun x hx=>hd x (List.mem_cons_of_mem _ hx)
  have hdo:∀t,Dst o.dst t->Yp dsts t:=fun t ht=>by have:=hd o (by simp);rw[show o.dst=some t from ht] at this;exact this
  have step:∀σ1,FrD (Yp dsts) σ σ1->wX P S n dsts r σ1 K->wX P S n dsts r σ1 K':=fun σ1 h1 hk=>ih hr (fun σ' h2 hk=>h σ' (h1.trans h2) hk) hk
  have stepO:∀σ1,FrD (Yp dsts) σ σ1->(aop P S n o σ1 fun σ=>wX P S n dsts r σ K)->(aop P S n o σ1 fun σ=>wX P S n dsts r σ K'):=fun σ1 h1 hk=>PC hI (fun σ' h2 hk=>step σ' (h1.trans (h2.weak hdo)) hk) hk
  have hput:∀σ1 v,FrD (Yp dsts) σ σ1->FrD (Yp dsts) σ (σ1.put o.dst v):=fun σ1 v h1=>h1.trans ((FrD.put σ1 o.dst v).weak hdo)
  unfold wX at hk ⊢;split at hk
  ·exact stepO _ (.refl ..) hk
  ·rename_i j want hg;split at hk
   ·rename_i d hj;have hgd:∀v,FrD (Yp dsts) σ (σ.put (some d) v):=fun v=>(FrD.put σ (some d) v).weak (fun t ht=>by cases ht;exact List.mem_of_getElem? hj)
    split at hk
    ·split at hk
     ·rename_i hw;rw[if_pos hw];exact stepO _ (.refl ..) hk
     ·rename_i hw;rw[if_neg hw];exact step _ (hput _ _ (.refl ..)) hk
    ·split at hk
     ·rename_i hw;rw[if_pos hw];exact step _ (hput _ _ (.refl ..)) hk
     ·rename_i hw;rw[if_neg hw];exact stepO _ (.refl ..) hk
    ·split at hk
     ·rename_i hw;rw[if_pos hw];exact YY (stepO _ (hgd _)) (step _ (hput _ _ (hgd _))) hk
     ·rename_i hw;rw[if_neg hw];exact YY (step _ (hput _ _ (hgd _))) (stepO _ (hgd _)) hk
    ·exact step _ (hput _ _ (.refl ..)) hk
    ·exact hk.elim
   ·exact hk.elim
theorem JQ {o:Oper} {M:v7} {σ:St} {K K':v7->St->Prop} (h:∀M σ',FrD (Dst o.dst) σ σ'->K M σ'->K' M σ') (hk:Mi P o M σ K):Mi P o M σ K':=by
 have hp:∀M v,K M (σ.put o.dst v)->K' M (σ.put o.dst v):=fun M v=>h M _ (.put σ o.dst v)
 have hpop:Wd P o M σ K->Wd P o M σ K':=fun hk=>by
  unfold Wd at *;split at hk
  ·rename_i hc;rw[if_pos hc];split at hk
   ·exact hp _ _ hk
   ·exact hk.elim
  ·exact hk.elim
 have hget:∀b,Uq M o.dst b σ K->Uq M o.dst b σ K':=fun b hk=>by
  unfold Uq at *;split at hk
  ·exact hp _ _ hk
  ·exact hk.elim
 unfold Mi at hk ⊢;split at hk
 ·split at hk
  ·rename_i hc;rw[if_pos hc];exact Uh (fun v hk=>hp _ _ hk) hk
  ·exact hk.elim
 ·split at hk
  ·split at hk
   ·rename_i hc;rw[if_pos hc];exact hp _ _ hk
   ·exact hk.elim
  ·exact hk.elim
 ·split at hk
  ·split at hk
   ·rename_i hc;rw[if_pos hc];exact YY (hget _) (hget _) hk
   ·exact hk.elim
  ·exact hk.elim
 ·split at hk
  ·rename_i d hd hop;rw[hd] at h;split at hk
   ·rename_i hc;rw[if_pos hc];split at hk
    ·rename_i hc2;rw[if_pos hc2];exact h _ _ (.put ..) hk
    ·exact hk.elim
   ·rename_i hc;rw[if_neg hc];exact hpop hk
  ·exact hpop hk
 ·exact hpop hk
theorem Lc (hI:kF S.inl) {dsts:List (Option Nat)}:∀(ops:List Oper) {M:Option v7} {σ:St} {K K':St->Prop},(∀o∈ops,o.dst∈dsts)->(∀σ',FrD (Yp dsts) σ σ'->K σ'->K' σ')->ue P S n ops M σ K->ue P S n ops M σ K':=by
 intro ops;induction ops with
 |nil=>intro M σ K K' _ h hk;exact h _ (.refl ..) hk
 |cons o r ih =>
  intro M σ K K' hd h hk;have hr:∀o∈r,o.dst∈dsts:=fun x hx=>hd x (List.mem_cons_of_mem _ hx)
  have hdo:∀t,Dst o.dst t->Yp dsts t:=fun t ht=>by have:=hd o (by simp);rw[show o.dst=some t from ht] at this;exact this
  have step:∀M σ1,FrD (Yp dsts) σ σ1->ue P S n r M σ1 K->ue P S n r M σ1 K':=fun M σ1 h1 hk=>ih hr (fun σ' h2 hk=>h σ' (h1.trans h2) hk) hk
  unfold ue at hk ⊢;split at hk
  ·exact hk.elim
  ·rename_i hg;rw[if_neg hg];split at hk
   ·split at hk
    ·rename_i d hop hd2;split at hk
     ·rename_i hc;rw[if_pos hc];exact step _ _ ((FrD.put σ (some d) _).weak fun t ht=>hdo t (by rw[hd2];exact ht)) hk
     ·exact hk.elim
    ·exact hk.elim
    ·exact PC hI (fun σ' h2 hk=>step none σ' (h2.weak hdo) hk) hk
   ·exact JQ (fun M σ' h2 hk=>step _ σ' (h2.weak hdo) hk) hk
theorem KU {g:Bool} {d:Option Nat} {σ:St} {K K':St->Prop} (h:∀σ',FrD (Dst d) σ σ'->K σ'->K' σ') (hk:split g d σ K):split g d σ K':=by
 unfold split at *;split at hk
 ·split at hk
  ·rename_i hb;(try simp only);exact YY (h _ (.put ..)) (h _ (.put ..)) hk
  ·(try simp only);exact h _ (.refl ..) hk
 ·exact h _ (.refl ..) hk
theorem L3 (hI:kF S.inl) {dsts:List (Option Nat)} {g:Bool} {o:Oper} {σ:St} {K K':St->Prop} (h:∀σ',FrD (Dst o.dst) σ σ'->K σ'->K' σ') (hk:gop P S n dsts g o σ K):gop P S n dsts g o σ K':=by
 have hs:(aop P S n o σ fun σ=>split g o.dst σ K)->(aop P S n o σ fun σ=>split g o.dst σ K'):=PC hI fun σ1 h1 hk=>KU (fun σ2 h2 hk=>h _ (h1.trans h2) hk) hk
 have hp:=h _ (.put σ o.dst (.tup []));unfold gop at *;split at hk
 ·exact hs hk
 ·split at hk
  ·split at hk
   ·split at hk
    ·rename_i hw;rw[if_pos hw];exact hs hk
    ·rename_i hw;rw[if_neg hw];exact hp hk
   ·split at hk
    ·rename_i hw;rw[if_pos hw];exact hp hk
    ·rename_i hw;rw[if_neg hw];exact hs hk
   ·exact hp hk
   ·exact hk.elim
  ·exact hk.elim
theorem O6 (hI:kF S.inl) {ops:Array Oper}:∀(l:List Nat) {past:List Fp} {σ:St} {K K':St->Prop},(∀σ',FrD (Yp (qg ops.toList)) σ σ'->K σ'->K' σ')->UY P S n ops l past σ K->UY P S n ops l past σ K':=by
 intro l;induction l with
 |nil=>intro past σ K K' h hk;exact h _ (.refl ..) hk
 |cons i r ih =>
  intro past σ K K' h hk;unfold UY at hk ⊢;cases ho:ops[i]? with
  |none=>rw[ho] at hk;exact hk.elim
  |some o =>
   rw[ho] at hk;simp only at hk ⊢;have hdo:∀t,Dst o.dst t->Yp (qg ops.toList) t:=fun t ht=>by
    refine List.mem_map.2 ⟨o,?_,ht⟩;have:=List.mem_of_getElem? (by rw[<- Array.getElem?_toList] at ho;exact ho);exact this
   split at hk
   ·exact hk.elim
   ·split at hk
    ·rename_i hc;rw[if_pos hc];refine L3 hI (fun σ' h1 hk=>?_) hk;simp only[j0] at hk ⊢;split at hk
     ·rename_i hc2;rw[if_pos hc2];exact ih (fun σ'' h2 hk=>h _ ((h1.weak hdo).trans h2) hk) hk
     ·exact hk.elim
    ·exact hk.elim
theorem J6 (hI:kF S.inl) {ops:Array Oper}:∀(l:List Nat) {σ:St} {K K':St->Prop},(∀σ',FrD (Yp (qg ops.toList)) σ σ'->K σ'->K' σ')->Oy P S n ops l K σ->Oy P S n ops l K' σ:=by
 intro l;induction l with
 |nil=>intro σ K K' h hk;exact h _ (.refl ..) hk
 |cons x r ih =>
  intro σ K K' h hk;unfold Oy at hk ⊢;split at hk
  ·rename_i o ho;exact L3 hI (fun σ2 h2 hk=>ih (fun σ3 h3 hk=>h σ3 ((h2.weak fun t ht=>List.mem_map.2 ⟨o,by simpa using Array.mem_of_getElem? ho,ht⟩).trans h3) hk) hk) hk
  ·exact hk.elim
theorem LF (hI:kF S.inl) {ops:Array Oper} {ord:List Nat} {σ:St} {K K':St->Prop} (h:∀σ',FrD (Yp (qg ops.toList)) σ σ'->K σ'->K' σ') (hk:Tq P S n ops ord σ K):Tq P S n ops ord σ K':=by
 unfold Tq at hk ⊢;simp only[j0] at hk ⊢;split at hk
 ·rename_i hc;rw[if_pos hc];exact O6 hI _ h hk
 ·rename_i hc;rw[if_neg hc];split at hk
  ·rename_i hf;rw[if_pos hf];exact O6 hI _ (fun σ' hf hk=>J6 hI _ (fun σ2 h2 hk=>h σ2 (hf.trans h2) hk) hk) hk
  ·exact hk.elim
end
theorem jA {α:Type}:∀ {l:List (Nat × α)} {a:Nat} {b:α},l.lookup a=some b->(a,b)∈l:=by
 intro l;induction l with
 |nil=>intro a b h;simp at h
 |cons x r ih =>
  intro a b h;obtain ⟨k,v⟩:=x;simp only[List.lookup_cons] at h;split at h
  ·rename_i hk;simp only[beq_iff_eq] at hk;cases h;subst hk;simp
  ·exact List.mem_cons_of_mem _ (ih h)
theorem uE {α:Type}:∀ {l:List (Nat × α)} {a:Nat},l.lookup a=none->∀q∈l,q.1≠a:=by
 intro l;induction l with
 |nil=>intro a h q hq;simp at hq
 |cons x r ih =>
  intro a h q hq;obtain ⟨k,v⟩:=x;simp only[List.lookup_cons] at h;split at h
  ·cases h
  ·rename_i hk;simp only[beq_eq_false_iff_ne,ne_eq] at hk;rcases List.mem_cons.1 hq with rfl | hq
   ·exact fun h=>hk h.symm
   ·exact ih h q hq
theorem TR {α:Type}:∀ {l:List (Nat × α)} {a:Nat} {b c:α},(l.map (·.1)).Nodup->(a,b)∈l->(a,c)∈l->b=c:=by
 intro l;induction l with
 |nil=>intro a b c _ h;simp at h
 |cons x r ih =>
  intro a b c hn hb hc;simp only[List.map_cons,List.nodup_cons,List.mem_map,not_exists,not_and] at hn;rcases List.mem_cons.1 hb with hb | hb
  ·rcases List.mem_cons.1 hc with hc | hc
   ·rw[<- hb] at hc;cases hc;rfl
   ·exact absurd (by rw[<- hb]) (hn.1 _ hc)
  ·rcases List.mem_cons.1 hc with hc | hc
   ·exact absurd (by rw[<- hc]) (hn.1 _ hb)
   ·exact ih hn.2 hb hc
theorem uq:∀(l m:List AV),js l m=true->l.length=m.length:=by
 intro l;induction l with
 |nil=>intro m h;cases m with
  |nil=>rfl
  |cons _ _=>simp[js] at h
 |cons a r ih=>intro m h;cases m with
  |nil=>simp[js] at h
  |cons b s=>simp only[js,Bool.and_eq_true] at h;simp[ih s h.2]
mutual
theorem Xj {h:Nat->Option Nat} (v:AV) (ht:v.tree=true):v.zj h=v:=by
 cases v with
 |ref b off=>simp[AV.tree] at ht
 |aslc b off len esz ag=>simp[AV.tree] at ht
 |map b=>simp[AV.tree] at ht
 |fn f a b =>
  simp only[AV.tree,Bool.and_eq_true] at ht;simp only[AV.zj];rw[wU a ht.1,wU b ht.2]
 |iface t v=>simp only[AV.zj];rw[Xj v (by simpa[AV.tree] using ht)]
 |eptr cs off=>simp only[AV.zj];rw[wU cs (by simpa[AV.tree] using ht)]
 |agg cs=>simp only[AV.zj];rw[wU cs (by simpa[AV.tree] using ht)]
 |tup cs=>simp only[AV.zj];rw[wU cs (by simpa[AV.tree] using ht)]
 |_=>rfl
theorem wU {h:Nat->Option Nat} (l:List AV) (ht:AV.zi l=true):AV.zh h l=l:=by
 cases l with
 |nil=>rfl
 |cons x r =>
  simp only[AV.zi,Bool.and_eq_true] at ht;simp only[AV.zh];rw[Xj x ht.1,wU r ht.2]
end
mutual
theorem SO {h:Nat->Option Nat} (v:AV) (ht:∀b∈v.refs,h b=some b):v.zj h=v:=by
 cases v with
 |ref b off=>simp only[AV.zj];rw[ht b (by simp[AV.refs])]
 |aslc b off len esz ag=>simp only[AV.zj];rw[ht b (by simp[AV.refs])]
 |map b=>simp only[AV.zj];rw[ht b (by simp[AV.refs])]
 |fn f a b=>simp only[AV.zj];rw[vj a fun b hb=>ht b (by simp[AV.refs,hb]),vj b fun b hb=>ht b (by simp[AV.refs,hb])]
 |iface t v=>simp only[AV.zj];rw[SO v fun b hb=>ht b (by simpa[AV.refs] using hb)]
 |eptr cs off=>simp only[AV.zj];rw[vj cs fun b hb=>ht b (by simpa[AV.refs] using hb)]
 |agg cs=>simp only[AV.zj];rw[vj cs fun b hb=>ht b (by simpa[AV.refs] using hb)]
 |tup cs=>simp only[AV.zj];rw[vj cs fun b hb=>ht b (by simpa[AV.refs] using hb)]
 |_=>rfl
theorem vj {h:Nat->Option Nat} (l:List AV) (ht:∀b∈AV.zd l,h b=some b):AV.zh h l=l:=by
 cases l with
 |nil=>rfl
 |cons x r=>simp only[AV.zh];rw[SO x fun b hb=>ht b (by simp[AV.zd,hb]),vj r fun b hb=>ht b (by simp[AV.zd,hb])]
end
theorem LX {h:Nat->Option Nat} {b:Nat} (hb:self h b=true):h b=some b:=by
 unfold self at hb;cases hh:h b with
 |none=>simp[hh] at hb
 |some i=>simp only[hh,beq_iff_eq] at hb;rw[hb]
theorem Tr {h:Nat->Option Nat} {v:AV} (hv:v.fixed h=true):v.zj h=v :=
 SO v fun b hb=>LX (List.all_eq_true.1 hv b hb)
mutual
theorem Td (v:AV) {K K':AV->Prop} (h:∀x,K x->K' x) (hk:Lb v K):Lb v K':=by
 cases v with
 |int k n=>exact fun n=>h _ (hk n)
 |bool b=>exact fun n=>h _ (hk n)
 |str s=>exact fun n=>h _ (hk n)
 |slc m es=>exact fun n=>h _ (hk n)
 |lit k n=>exact h _ hk
 |tup vs=>exact fun n=>h _ (hk n)
 |agg cs=>exact jZ cs (fun _ hx=>h _ hx) hk
 |eptr cs o=>exact jZ cs (fun _ hx=>h _ hx) hk
 |iface t v=>exact Td v (fun _ hx=>h _ hx) hk
 |undef=>exact fun v ht=>h _ (hk v ht)
 |_=>trivial
theorem jZ (l:List AV) {K K':List AV->Prop} (h:∀x,K x->K' x) (hk:YM l K):YM l K':=by
 cases l with
 |nil=>exact h _ hk
 |cons x r=>exact Td x (fun v hv=>jZ r (fun l hl=>h _ hl) hv) hk
end
mutual
theorem S3 (v x:AV) {K:AV->Prop} (hf:ur v x=true) (hk:Lb v K):K x:=by
 cases v with
 |int k n =>
  cases x<;>simp only[ur,decide_eq_true_eq,Bool.false_eq_true] at hf;subst hf;exact hk _
 |lit k n =>
  cases x<;>simp only[ur,decide_eq_true_eq,Bool.false_eq_true] at hf;obtain ⟨rfl,rfl⟩:=hf;exact hk
 |bool b=>cases x<;>simp only[ur,Bool.false_eq_true] at hf;exact hk _
 |str s=>cases x<;>simp only[ur,Bool.false_eq_true] at hf;exact hk _
 |slc m es =>
  cases x with
  |slc m' es' =>
   have:m'=3:=by
    unfold ur at hf;split at hf<;>simp_all
   subst this;exact hk _
  |_=>simp[ur] at hf
 |tup vs=>cases x<;>simp only[ur,Bool.false_eq_true] at hf;exact hk _
 |agg cs =>
  cases x<;>simp only[ur,Bool.false_eq_true] at hf;exact kX cs _ hf hk
 |eptr cs o =>
  cases x<;>simp only[ur,Bool.false_eq_true,Bool.and_eq_true,decide_eq_true_eq] at hf;obtain ⟨rfl,hf⟩:=hf;exact kX (K:=fun l=>K (.eptr l _)) cs _ hf hk
 |iface t v =>
  cases x<;>simp only[ur,Bool.false_eq_true,Bool.and_eq_true,decide_eq_true_eq] at hf;obtain ⟨rfl,hf⟩:=hf;exact S3 (K:=fun y=>K (.iface _ y)) v _ hf hk
 |undef=>exact hk x (by simpa[ur] using hf)
 |_=>simp[ur] at hf
theorem kX (l xs:List AV) {K:List AV->Prop} (hf:js l xs=true) (hk:YM l K):K xs:=by
 cases l with
 |nil =>
  cases xs with
  |nil=>exact hk
  |cons _ _=>simp[js] at hf
 |cons x r =>
  cases xs with
  |nil=>simp[js] at hf
  |cons y s =>
   simp only[js,Bool.and_eq_true] at hf;exact kX r s hf.2 (S3 x y hf.1 hk)
end
theorem NB:∀(m:Nat) {K K':List (List AV)->Prop},(∀x,K x->K' x)->M9 m K->M9 m K':=by
 intro m;induction m with
 |zero=>intro K K' h hk;exact h _ hk
 |succ m ih=>intro K K' h hk es;exact ih (fun l hl=>h _ hl) (hk es)
theorem La:∀(m:Nat) {K:List (List AV)->Prop} (ls:List (List AV)),ls.length=m->M9 m K->K ls:=by
 intro m;induction m with
 |zero=>intro K ls hl hk;have:ls=[]:=List.length_eq_zero_iff.1 hl;subst this;exact hk
 |succ m ih =>
  intro K ls hl hk;cases ls with
  |nil=>simp at hl
  |cons x r=>exact ih r (by simpa using hl) (hk x)
theorem Sx {σ:St}:∀ {l:List (Nat × AV)} {gs:List AV},Wu σ l=some gs->js (l.map (·.2)) gs=true/\∀q∈(l.map (·.1)).zip gs,q.2=(σ.sl.getD q.1 .undef).norm/\(σ.sl.getD q.1 .undef).tree=true:=by
 intro l;induction l with
 |nil=>intro gs h;cases h;exact⟨rfl,by simp⟩
 |cons x r ih =>
  obtain ⟨t,sk⟩:=x;intro gs h;simp only[Wu] at h;split at h
  ·rename_i hc;simp only[Bool.and_eq_true] at hc;obtain ⟨l,hl,rfl⟩:=Option.map_eq_some_iff.1 h;obtain ⟨h1,h2⟩:=ih hl;refine⟨by simp only[List.map_cons,js,hc.2,h1,Bool.and_self],fun q hq=>?_⟩;simp only[List.map_cons,List.zip_cons_cons,List.mem_cons] at hq;rcases hq with rfl | hq
   ·exact⟨rfl,hc.1⟩
   ·exact h2 q hq
  ·cases h
theorem UT {σ0 σ:St}:∀ {l:List (Nat × AV)} {bs:List AV},YV σ0 σ l=some bs->js (l.map (·.2)) bs=true /\
  ∀q∈l.zip bs,∃x y,σ0.bx.getD q.1.1 none=some x/\σ.bx.getD q.1.1 none=some y/\x.arr=y.arr/\(x.arr=true\/AV.zi y.cs=true)/\q.2=.agg (AV.zb y.cs):=by
 intro l;induction l with
 |nil=>intro bs h;cases h;exact⟨rfl,by simp⟩
 |cons x r ih =>
  obtain ⟨b,sk⟩:=x;intro bs h;simp only[YV] at h;split at h
  ·rename_i x y hx hy;split at h
   ·rename_i hc;simp only[Bool.and_eq_true,Bool.or_eq_true,beq_iff_eq] at hc;obtain ⟨l,hl,rfl⟩:=Option.map_eq_some_iff.1 h;obtain ⟨h1,h2⟩:=ih hl;refine⟨by simp only[List.map_cons,js,hc.2,h1,Bool.and_self],fun q hq=>?_⟩;simp only[List.zip_cons_cons,List.mem_cons] at hq;rcases hq with rfl | hq
    ·exact⟨x,y,hx,hy,hc.1.1,hc.1.2,rfl⟩
    ·exact h2 q hq
   ·cases h
  ·cases h
def MR (P:Program) (σ:St) (q:Nat × TypeId) (es:List AV):Prop :=
 ((σ.sl.getD q.1 .undef=.slc 0 []\/σ.sl.getD q.1 .undef=.slc 2 [])/\es=[]) \/
 ∃b x,σ.sl.getD q.1 .undef=.aslc b 0 es.length (P.cellsOf q.2) (yf P q.2)/\σ.bx.getD b none=some x/\x.arr=true/\es.flatMap AV.cells=x.cs
theorem Sc {P:Program} {σ:St}:∀ {l:List (Nat × TypeId)} {C:List (List AV)->Prop},uN P σ l C->∃ls,C ls/\ls.length=l.length/\∀q∈l.zip ls,MR P σ q.1 q.2:=by
 intro l;induction l with
 |nil=>intro C h;exact⟨[],h,rfl,by simp⟩
 |cons x r ih =>
  obtain ⟨t,e⟩:=x;intro C h;have fin:∀es,MR P σ (t,e) es->uN P σ r (fun l=>C (es::l))->∃ls,C ls/\ls.length=r.length+1/\∀q∈((t,e)::r).zip ls,MR P σ q.1 q.2:=by
   intro es h1 h2;obtain ⟨ls,h3,h4,h5⟩:=ih h2;refine⟨es::ls,h3,by simp[h4],fun q hq=>?_⟩;simp only[List.zip_cons_cons,List.mem_cons] at hq;rcases hq with rfl | hq
   ·exact h1
   ·exact h5 q hq
  simp only[uN] at h;split at h
  ·rename_i hh;exact fin [] (.inl ⟨.inl hh,rfl⟩) h
  ·rename_i hh;exact fin [] (.inl ⟨.inr hh,rfl⟩) h
  ·rename_i b off len esz ag hh;split at h
   ·rename_i x hx;split at h
    ·rename_i hc;simp only[Bool.and_eq_true,beq_iff_eq] at hc;obtain ⟨⟨⟨ha,rfl⟩,rfl⟩,rfl⟩:=hc;obtain ⟨es,⟨h1,h2⟩,h3⟩:=h;subst h1;exact fin es (.inr ⟨b,x,hh,hx,ha,h2⟩) h3
    ·exact h.elim
   ·exact h.elim
  ·exact h.elim
theorem QQ {entry:Bool} {h:Nat->Option Nat} {skip:Nat->Bool} {σ:St} {C:Prop}:∀ {l:List (Option Bx)} {b0:Nat},uB entry h skip σ b0 l C->C/\∀(i:Nat) (x:Bx),l[i]? = some (some x)->skip (b0+i)=false ->
  ∃y,σ.bx.getD (b0+i) none=some y/\y.arr=x.arr/\h (b0+i)=some (b0+i)/\(x.arr=true\/∀v∈x.cs,v.fixed h=true)/\(entry=false->y.cs=x.cs):=by
 intro l;induction l with
 |nil=>intro b0 hk;exact⟨hk,fun i x hi=>by simp at hi⟩
 |cons o r ih =>
  intro b0 hk;have tail:uB entry h skip σ (b0+1) r C->(∀x,o=some x->skip b0=false ->
    ∃y,σ.bx.getD b0 none=some y/\y.arr=x.arr/\h b0=some b0/\(x.arr=true\/∀v∈x.cs,v.fixed h=true)/\(entry=false->y.cs=x.cs))->C/\∀(i:Nat) (x:Bx),(o::r)[i]? = some (some x)->skip (b0+i)=false ->
    ∃y,σ.bx.getD (b0+i) none=some y/\y.arr=x.arr/\h (b0+i)=some (b0+i)/\(x.arr=true\/∀v∈x.cs,v.fixed h=true)/\(entry=false->y.cs=x.cs):=by
   intro h1 h2;obtain ⟨h3,h4⟩:=ih h1;refine⟨h3,fun i x hi hs=>?_⟩;cases i with
   |zero=>exact h2 x (by simpa using hi) hs
   |succ i =>
    have:b0+(i+1)=b0+1+i:=by omega
    rw[this] at hs ⊢;exact h4 i x (by simpa using hi) hs
  cases o with
  |none=>exact tail hk (fun x hx=>by cases hx)
  |some x =>
   simp only[uB] at hk;split at hk
   ·rename_i hs;exact tail hk (fun y hy hs'=>by rw[hs] at hs';cases hs')
   ·split at hk
    ·rename_i y hy;by_cases hc:(y.arr == x.arr && self h b0 && (x.arr || x.cs.all (AV.fixed h)))=true
     ·rw[if_pos hc] at hk;simp only[Bool.and_eq_true,Bool.or_eq_true,beq_iff_eq] at hc;have hfx:x.arr=true\/∀v∈x.cs,v.fixed h=true:=by
       rcases hc.2 with hc | hc
       ·exact .inl hc
       ·exact .inr (List.all_eq_true.1 hc)
      split at hk
      ·rename_i he;exact tail hk (fun x' hx' _=>by cases hx';exact⟨y,hy,hc.1.1,LX hc.1.2,hfx,fun h=>by rw[he] at h;cases h⟩)
      ·exact tail hk.2 (fun x' hx' _=>by cases hx';exact⟨y,hy,hc.1.1,LX hc.1.2,hfx,fun _=>hk.1⟩)
     ·rw[if_neg hc] at hk;exact hk.elim
    ·exact hk.elim
theorem wy {α β γ:Type} {f:α->β->γ} {l:List α} {m:List β} {c:γ} (h:c∈List.zipWith f l m):∃q∈l.zip m,c=f q.1 q.2:=by
 induction l generalizing m with
 |nil=>simp at h
 |cons x r ih =>
  cases m with
  |nil=>simp at h
  |cons y s =>
   simp only[List.zipWith_cons_cons,List.mem_cons] at h;rcases h with rfl | h
   ·exact⟨(x,y),by simp,rfl⟩
   ·obtain ⟨q,h1,h2⟩:=ih h;exact⟨q,by simp[h1],h2⟩
theorem wj {α:Type} {f:Nat->α->α} {l:List α} {d:α} {t:Nat}:(Um l f).getD t d=if t<l.length then f t (l.getD t d) else d:=by
 simp only[List.getD,w9];by_cases h:t<l.length
 ·simp[h]
 ·simp[h]
theorem Kl {cs:List AV} (h:cs.length≠1):qj cs=none:=by
 match cs with
 |[]=>rfl
 |[x]=>exact absurd rfl h
 |x::y::r=>rfl
theorem QV {h:Nat->Option Nat} {c v:AV} (hr:TV (c.zj h) v) (hm:kH c=none):kH v=none:=by
 rcases hr with rfl | rfl | rfl | ⟨_,b,esz,ag,rfl⟩
 ·rfl
 ·rw[XN];exact hm
 ·rw[Ul,XN];exact hm
 ·rfl
def Pw (h:Nat->Option Nat) (n:Nat) (σ σ':St):Prop :=
 ((∀b i,h b=some i->i<n->b=i)/\True/\(∀b c i,h b=some i->h c=some i->b=c) /\
  (∀t,TV ((σ.sl.getD t .undef).zj h) (σ'.sl.getD t .undef)) /\
  (∀b' x',σ'.bx.getD b' none=some x'->(∃b x,h b=some b'/\σ.bx.getD b none=some x/\x'.arr=x.arr/\x'.cs.length=x.cs.length/\qj x'.cs=qj x.cs /\
   ∀j,if x.arr then Oq (x.cs.getD j .undef) (x'.cs.getD j .undef) else TV ((x.cs.getD j .undef).zj h) (x'.cs.getD j .undef))\/(x'.cs=[]/\n<=b'/\∀b,h b≠some b'))) /\
 σ'.sl.length=σ.sl.length
theorem Pw.zY {h:Nat->Option Nat} {n:Nat} {σ σ':St} (hw:Pw h n σ σ'):xL n σ σ':=⟨⟨h,hw.1⟩,hw.2⟩
theorem Ym {bx:List (Option Bx)} {b off:Nat} {v:AV} {c:Nat}:(Xk bx b off v).getD c none=if c=b then (bx.getD b none).map (fun x=>{ x with cs:=x.cs.set off v }) else bx.getD c none:=by
 unfold Xk;cases hb:bx.getD b none with
 |none =>
  simp only[Option.map_none];split
  ·rename_i hc;rw[hc,hb]
  ·rfl
 |some x =>
  have hlt:b<bx.length:=by
   rcases Nat.lt_or_ge b bx.length with h | h
   ·exact h
   ·simp[List.getD,List.getElem?_eq_none h] at hb
  simp only[Option.map_some,List.getD];split
  ·rename_i hc;rw[hc];simp[hlt]
  ·rename_i hc;rw[List.getElem?_set_ne (Ne.symm hc)]
theorem LH {h:Nat->Option Nat} {n:Nat} {q:Nat × Nat × TypeId} {σ τ:St} {x:Bx} (hx:σ.bx.getD q.1 none=some x) (ha:x.arr=false) (hm:qj x.cs=none) (ho:q.2.1<x.cs.length) (hq:h q.1=some q.1) (hw:Pw h n (uD q σ) τ):Pw h n σ (Ye q τ):=by
 obtain ⟨⟨w1,w2,w3,w4,w5⟩,w6⟩:=hw;have hl:τ.sl.length=σ.sl.length+1:=by rw[w6];simp[uD]
 have hdl:(Ye q τ).sl.length=σ.sl.length:=by simp[Ye,hl]
 have hsl:∀t,t<σ.sl.length->(Ye q τ).sl.getD t .undef=τ.sl.getD t .undef:=by
  intro t ht;simp only[Ye,List.getD,List.getElem?_take];rw[if_pos (by omega)]
 have hlift:∀t,(uD q σ).sl.getD t .undef=if t<σ.sl.length then σ.sl.getD t .undef else if t=σ.sl.length then XD σ q.1 q.2.1 else .undef:=by
  intro t;simp only[uD,List.getD,List.getElem?_append];split
  ·rfl
  ·rename_i h1;split
   ·rename_i h2;rw[h2];simp
   ·rename_i h2;rw[List.getElem?_eq_none (by simp;omega)];rfl
 refine⟨⟨w1,w2,w3,fun t=>?_,fun b' x' hx'=>?_⟩,hdl⟩
 ·rcases Nat.lt_or_ge t σ.sl.length with ht | ht
  ·have:=w4 t;rw[hlift,if_pos ht] at this;rw[hsl t ht];exact this
  ·have e:(Ye q τ).sl.getD t .undef=.undef:=yM (by rw[hdl];exact ht);rw[e];exact .inl rfl
 ·simp only[Ye] at hx';rw[Ym] at hx';have hlb:∀b,(uD q σ).bx.getD b none=if b=q.1 then (σ.bx.getD q.1 none).map (fun x=>{ x with cs:=x.cs.set q.2.1 .undef }) else σ.bx.getD b none:=fun b=>Ym
  split at hx'
  ·rename_i hb;subst hb;obtain ⟨y,hy,rfl⟩:=Option.map_eq_some_iff.1 hx';rcases w5 q.1 y hy with ⟨b,z,g1,g2,g3,g4,_,g5⟩ | ⟨_,_,g⟩
   ·have hbq:b=q.1:=w3 b q.1 q.1 g1 hq;subst hbq;rw[hlb,if_pos rfl,hx] at g2;cases g2;have hmv:qj (y.cs.set q.2.1 (τ.sl.getD (τ.sl.length-1) .undef))=qj x.cs:=by
     rw[hm];simp only[List.length_set] at g4;by_cases hl1:x.cs.length=1
     ·have h0:q.2.1=0:=by omega
      have hr:=w4 (τ.sl.length-1);rw[hlift,if_neg (by omega),if_pos (by omega)] at hr;have e2:XD σ q.1 q.2.1=x.cs.getD q.2.1 .undef:=by unfold XD;rw[hx]
      rw[e2,h0] at hr;match hxc:x.cs,hl1 with
      |[c],_ =>
       rw[hxc] at hr hm;match hyc:y.cs,(show y.cs.length=1 by rw[g4,hxc];rfl) with
       |[d],_ =>
        rw[h0];show kH _=none;exact QV hr hm
     ·exact Kl (by rw[List.length_set,g4];exact hl1)
    refine .inl ⟨q.1,x,hq,hx,g3,by simpa using g4,hmv,fun j=>?_⟩;simp only[ha,Bool.false_eq_true,if_false] at g5 ⊢;simp only[List.length_set] at g4;by_cases hj:j=q.2.1
    ·subst hj;have e1:(y.cs.set q.2.1 (τ.sl.getD (τ.sl.length-1) .undef)).getD q.2.1 .undef=τ.sl.getD (τ.sl.length-1) .undef:=by
      simp only[List.getD,List.getElem?_set_self (by omega:q.2.1<y.cs.length),Option.getD_some]
     rw[e1];have:=w4 (τ.sl.length-1);rw[hlift,if_neg (by omega),if_pos (by omega)] at this;have e2:XD σ q.1 q.2.1=x.cs.getD q.2.1 .undef:=by unfold XD;rw[hx]
     rw[e2] at this;exact this
    ·have e1:(y.cs.set q.2.1 (τ.sl.getD (τ.sl.length-1) .undef)).getD j .undef=y.cs.getD j .undef:=by
      simp only[List.getD,List.getElem?_set_ne (Ne.symm hj)]
     rw[e1];have:=g5 j;have e2:(x.cs.set q.2.1 .undef).getD j .undef=x.cs.getD j .undef:=by
      simp only[List.getD,List.getElem?_set_ne (Ne.symm hj)]
     rw[e2] at this;exact this
   ·exact absurd hq (g q.1)
  ·rename_i hb;rcases w5 b' x' hx' with ⟨b,z,g1,g2,g3,g4,g5⟩ | g
   ·have hbq:b≠q.1:=by rintro rfl;rw[hq] at g1;exact hb (Option.some.inj g1).symm
    rw[hlb,if_neg hbq] at g2;exact .inl ⟨b,z,g1,g2,g3,g4,g5⟩
   ·exact .inr g
theorem LJ {h:Nat->Option Nat} {n:Nat}:∀(cap:List (Nat × Nat × TypeId)) {σ τ:St},OY h cap σ=true->Pw h n (jM cap σ) τ->Pw h n σ (wG cap τ):=by
 intro cap;induction cap with
 |nil=>intro σ τ _ hw;exact hw
 |cons q r ih =>
  intro σ τ hc hw;simp only[OY,Bool.and_eq_true] at hc;obtain ⟨⟨h1,h2⟩,h3⟩:=hc;split at h1
  ·rename_i x hx;simp only[Bool.and_eq_true,Bool.not_eq_true',decide_eq_true_eq] at h1;exact LH hx h1.1.1 (by simpa using h1.1.2) h1.2 (LX h2) (ih h3 hw)
  ·cases h1
theorem Ug:∀(cap:List (Nat × Nat × TypeId)) (σ:St),(jM cap σ).sl.length=σ.sl.length+cap.length/\∀t,t<σ.sl.length->(jM cap σ).sl.getD t .undef=σ.sl.getD t .undef:=by
 intro cap;induction cap with
 |nil=>intro σ;exact⟨rfl,fun _ _=>rfl⟩
 |cons q r ih =>
  intro σ;obtain ⟨h1,h2⟩:=ih (uD q σ);have hl:(uD q σ).sl.length=σ.sl.length+1:=by simp[uD]
  refine⟨by simp only[jM,h1,hl,List.length_cons];omega,fun t ht=>?_⟩;simp only[jM];rw[h2 t (by omega)];simp only[uD,List.getD,List.getElem?_append,if_pos ht]
theorem LI:∀(cap:List (Nat × Nat × TypeId)) (τ:St),cap.length<=τ.sl.length->(wG cap τ).sl.length=τ.sl.length-cap.length/\∀t,t<τ.sl.length-cap.length->(wG cap τ).sl.getD t .undef=τ.sl.getD t .undef:=by
 intro cap;induction cap with
 |nil=>intro τ _;exact⟨rfl,fun _ _=>rfl⟩
 |cons q r ih =>
  intro τ hl;simp only[List.length_cons] at hl;obtain ⟨h1,h2⟩:=ih τ (by omega);refine⟨by simp only[wG,Ye,List.length_take,h1,List.length_cons];omega,fun t ht=>?_⟩;simp only[List.length_cons] at ht;have:=h2 t (by omega);simp only[wG,Ye,List.getD,List.getElem?_take];rw[if_pos (by omega)];exact this
section
variable {P:Program} {n:Nat} {keep D:List Nat} {p:Pat} {σ0 σ:St}
theorem Pl {entry:Bool} {C:List AV->Prop} (hlen:σ.sl.length=σ0.sl.length) (hkept:∀t,t∈keep->t∉D->σ.sl.getD t .undef=σ0.sl.getD t .undef) (hen:entry=true->σ0=σ)
  (hk:OE P n keep D p entry σ0 σ C):∃gs ls bs,C (xr gs ls bs)/\js (p.gen.map (·.2)) gs=true/\ls.length=p.app.length/\js (p.bgen.map (·.2)) bs=true/\Pw (p.zM n σ) n σ (qO P n keep D p σ0 gs ls bs):=by
 unfold OE at hk;split at hk
 case isFalse=>exact hk.elim
 rename_i hok;obtain ⟨hk,hkb⟩:=QQ hk;split at hk
 case h_2=>exact hk.elim
 rename_i gs bs hgs hbs;obtain ⟨ls,hC,hll,hap⟩:=Sc hk;obtain ⟨hfg,hg⟩:=Sx hgs;obtain ⟨hfb,hb⟩:=UT hbs;unfold L7 at hok;simp only[Bool.and_eq_true,decide_eq_true_eq,List.all_eq_true] at hok;obtain ⟨⟨⟨hnd,hsd⟩,hbg⟩,hfx⟩:=hok;refine⟨gs,ls,bs,hC,hfg,hll,hfb,⟨⟨?_,trivial,?_,?_,?_⟩,?_⟩⟩
 ·intro b i hb hin;unfold Pat.zM N5 at hb;split at hb
  ·rename_i j hj;cases hb;have hm:=jA hj;exfalso;obtain ⟨q,_,hq⟩:=List.mem_filterMap.1 hm;split at hq
   ·cases hq;omega
   ·cases hq
  ·split at hb
   ·cases hb
   ·cases hb;rfl
 ·intro b c i hb hc;have key:∀b i,p.zM n σ b=some i->((b,i)∈xM n p σ/\∃q∈p.app,i=n+q.1/\∃off len esz ag,σ.sl.getD q.1 .undef=.aslc b off len esz ag)\/(b=i/\∀q∈p.app,i≠n+q.1):=by
   intro b i hb;unfold Pat.zM N5 at hb;split at hb
   ·rename_i j hj;cases hb;have hm:=jA hj;refine .inl ⟨hm,?_⟩;obtain ⟨q,hq1,hq⟩:=List.mem_filterMap.1 hm;refine⟨q,hq1,?_⟩;split at hq
    ·rename_i hh;cases hq;exact⟨rfl,_,_,_,_,hh⟩
    ·cases hq
   ·split at hb
    ·cases hb
    ·rename_i hn;cases hb;refine .inr ⟨rfl,fun q hq h=>hn ?_⟩;simp only[List.contains_iff_mem,List.mem_map];exact⟨q,hq,h.symm⟩
  rcases key b i hb with ⟨_,q,hq,rfl,_,_,_,_,h1⟩ | ⟨rfl,h1⟩
  ·rcases key c _ hc with ⟨_,q',hq',h2,_,_,_,_,h3⟩ | ⟨_,h3⟩
   ·have:q.1=q'.1:=by omega
    rw[this,h3] at h1;cases h1;rfl
   ·exact absurd rfl (h3 q hq)
  ·rcases key c _ hc with ⟨_,q',hq',h2,_,_,_,_,h3⟩ | ⟨h2,h3⟩
   ·exact absurd h2 (h1 q' hq')
   ·exact h2.symm
 ·intro t;simp only[qO];rw[wj];split
  case isFalse=>exact .inl rfl
  split
  case isFalse=>exact .inl rfl
  rename_i hkt;simp only[List.contains_iff_mem] at hkt;split
  ·rename_i v hv;rcases List.mem_append.1 (jA hv) with hv | hv
   ·obtain ⟨h1,h2⟩:=hg _ hv;simp only at h1 h2;rw[h1,Xj _ h2];exact .inr (.inr (.inl rfl))
   ·obtain ⟨q,hq,he⟩:=wy hv;simp only[Prod.mk.injEq] at he;obtain ⟨rfl,rfl⟩:=he;rcases hap q hq with ⟨h1,h2⟩ | ⟨b,x,h1,h2,h3,h4⟩
    ·rw[h2];refine .inr (.inr (.inr ⟨?_,_,_,_,rfl⟩));rcases h1 with h1 | h1<;>rw[h1]
     ·exact .inl rfl
     ·exact .inr rfl
    ·rw[h1];refine .inr (.inl ?_);have hin:(b,n+q.1.1)∈xM n p σ:=List.mem_filterMap.2 ⟨q.1,(List.of_mem_zip hq).1,by rw[h1]⟩;have:p.zM n σ b=some (n+q.1.1):=by
      unfold Pat.zM N5;cases hl:(xM n p σ).lookup b with
      |none=>exact absurd rfl (uE hl _ hin)
      |some j =>
       have hm:=jA hl;rw[TR hsd hm hin]
     simp only[AV.zj,this]
  ·split
   ·exact .inl rfl
   ·rename_i hD;simp only[List.contains_iff_mem] at hD;have h1:=hkept t hkt hD;have h2:=hfx t hkt;simp only[Bool.or_eq_true,List.contains_iff_mem,hD,false_or] at h2;rw[<- h1] at h2;rw[Tr h2,h1];exact .inr (.inl rfl)
 ·intro b' x' hx';simp only[qO] at hx';rw[wj] at hx';split at hx'
  case isFalse=>cases hx'
  rename_i hblt;split at hx'
  ·rename_i y hy;cases hx';rcases List.mem_append.1 (jA hy) with hv | hv
   ·obtain ⟨q,hq,he⟩:=wy hv;simp only[Prod.mk.injEq] at he;obtain ⟨rfl,rfl⟩:=he;rcases hap q hq with ⟨h1,h2⟩ | ⟨b,x,h1,h2,h3,h4⟩
    ·refine .inr ⟨by simp[h2],by omega,fun b hb=>?_⟩;unfold Pat.zM N5 at hb;split at hb
     ·rename_i j hj;cases hb;obtain ⟨q',hq',he⟩:=List.mem_filterMap.1 (jA hj);split at he
      ·rename_i hh;simp only[Option.some.injEq,Prod.mk.injEq] at he;have:q'.1=q.1.1:=by omega
       rw[this] at hh;rcases h1 with h1 | h1<;>(rw[h1] at hh;cases hh)
      ·cases he
     ·split at hb
      ·cases hb
      ·rename_i hn;cases hb;exact hn (by simp only[List.contains_iff_mem,List.mem_map];exact⟨q.1,(List.of_mem_zip hq).1,rfl⟩)
    ·have hin:(b,n+q.1.1)∈xM n p σ:=List.mem_filterMap.2 ⟨q.1,(List.of_mem_zip hq).1,by rw[h1]⟩;have hhb:p.zM n σ b=some (n+q.1.1):=by
      unfold Pat.zM N5;cases hl:(xM n p σ).lookup b with
      |none=>exact absurd rfl (uE hl _ hin)
      |some j =>
       have hm:=jA hl;rw[TR hsd hm hin]
     refine .inl ⟨b,x,hhb,h2,h3.symm,by rw[h4],by rw[h4],fun j=>?_⟩;rw[if_pos h3,h4];exact .inr (.inl rfl)
   ·obtain ⟨q,hq,he⟩:=wy hv;simp only[Prod.mk.injEq] at he;obtain ⟨rfl,rfl⟩:=he;obtain ⟨x,y,h1,h2,h3,h4,h5⟩:=hb q hq;rw[h1,h5];have hhb:=LX (hbg q.1 (List.of_mem_zip hq).1);refine .inl ⟨q.1.1,y,hhb,h2,h3,by simp[AV.cells,yr],by simp only[AV.cells];exact vg _,fun j=>?_⟩;simp only[AV.cells,yR];split
    ·exact .inr (.inr rfl)
    ·rename_i ha;have:AV.zi y.cs=true:=by
      rcases h4 with h4 | h4
      ·rw[h3] at h4;exact absurd h4 ha
      ·exact h4
     rw[Xj _ (qT this j)];exact .inr (.inr (.inl rfl))
  ·rename_i hnone;split at hx'
   ·cases hx'
   ·rename_i hns;have hskip:((p.bgen.map (·.1)).contains b' || (p.app.map fun q=>n+q.1).contains b' || (xM n p σ0).any (fun q=>q.1 == b'))=false:=by
     rw[Bool.or_eq_false_iff,Bool.or_eq_false_iff];have hno:=uE hnone;refine⟨⟨?_,?_⟩,by rw[<- Bool.not_eq_true];exact hns⟩
     ·rw[Bool.eq_false_iff];intro hc;simp only[List.contains_iff_mem,List.mem_map] at hc;obtain ⟨q,hq,rfl⟩:=hc;have hbl:p.bgen.length=bs.length:=by simpa using uq _ _ hfb
      obtain ⟨i,hi,hqi⟩:=List.getElem_of_mem hq;unfold L6 at hno;have:=hno _ (List.mem_append_right _ (List.getElem_mem (n:=i) (by simp only[List.length_zipWith];omega)));simp only[List.getElem_zipWith,hqi,ne_eq,not_true_eq_false] at this
     ·rw[Bool.eq_false_iff];intro hc;simp only[List.contains_iff_mem,List.mem_map] at hc;obtain ⟨q,hq,rfl⟩:=hc;obtain ⟨i,hi,hqi⟩:=List.getElem_of_mem hq;refine hno (n+q.1,⟨q.2,true,(ls[i]'(by omega)).flatMap AV.cells⟩) (List.mem_append_left _ ?_) rfl;rw[List.mem_iff_getElem];refine⟨i,by simp;omega,?_⟩;simp only[List.getElem_zipWith,hqi]
    have hl:σ0.bx[b']? = some (some x'):=by
     simp only[List.getD] at hx';rw[List.getElem?_eq_getElem hblt] at hx' ⊢;simpa using hx'
    obtain ⟨y,h1,h2,h3,h4,h5⟩:=hkb b' x' hl (by rw[Nat.zero_add];exact hskip);rw[Nat.zero_add] at h1 h3;have h5:y.cs=x'.cs:=by
     cases entry with
     |false=>exact h5 rfl
     |true =>
      rw[hen rfl,h1] at hx';cases hx';rfl
    refine .inl ⟨b',y,h3,h1,h2.symm,by rw[h5],by rw[h5],fun j=>?_⟩;rw[h5];split
    ·exact .inr (.inl rfl)
    ·rename_i ha;rcases h4 with h4 | h4
     ·rw[h2] at ha;exact absurd h4 ha
     ·rcases Nat.lt_or_ge j x'.cs.length with hj | hj
      ·have:=h4 (x'.cs.getD j .undef) (by simp only[List.getD,List.getElem?_eq_getElem hj,Option.getD_some];exact List.getElem_mem hj);rw[Tr this];exact .inr (.inl rfl)
      ·rw[yM hj];exact .inl rfl
 ·simp only[qO,uF];exact hlen.symm
end
def CD (ctl:Ctl) (c:Code) (t:Nat):Prop:=t∈ctl.dsts c\/t∉ctl.keep
theorem Y4 {ctl:Ctl} {a b:Code} {t:Nat}:(t∈ctl.dsts a->t∈uj a++uj b++(ctl.fz.filter fun q=>decide (q.2<1000000000)).map (fun q=>q.2 % 1000000))/\(t∈ctl.dsts b->t∈uj a++uj b++(ctl.fz.filter fun q=>decide (q.2<1000000000)).map (fun q=>q.2 % 1000000)):=by
 simp only[Ctl.dsts,List.mem_append];exact⟨fun h=>h.elim (fun h=>.inl (.inl h)) .inr,fun h=>h.elim (fun h=>.inl (.inr h)) .inr⟩
theorem Lw (keep:List Nat) (σ:St):FrD (fun t=>t∉keep) σ (clean keep σ):=by
 refine⟨by simp[clean,uF],fun t ht=>?_⟩;simp only[clean];rw[wj];split
 ·rw[if_pos (by simpa using ht)]
 ·rename_i hl;rw[yM (by omega)]
section
variable {P:Program} {S:Specs} {n:Nat}
theorem N7 {keep D:List Nat} {p:Pat} {σ:St} {gs:List AV} {ls:List (List AV)} {bs:List AV} (hp:xz D p=true) :
  FrD (fun t=>t∈D\/t∉keep) σ (qO P n keep D p σ gs ls bs):=by
 refine⟨by simp[qO,uF],fun t ht=>?_⟩;simp only[not_or,Classical.not_not] at ht;simp only[qO];rw[wj];split
 case isFalse=>rename_i hl;rw[yM (by omega)]
 rw[if_pos (by simpa using ht.2)];split
 ·rename_i v hv;exfalso;unfold xz at hp;rw[List.all_eq_true] at hp;have:t∈p.gen.map (·.1)++p.app.map (·.1):=by
   rcases List.mem_append.1 (jA hv) with hv | hv
   ·exact List.mem_append_left _ (List.of_mem_zip hv).1
   ·obtain ⟨q,hq,he⟩:=wy hv;simp only[Prod.mk.injEq] at he;exact List.mem_append_right _ (List.mem_map.2 ⟨q.1,(List.of_mem_zip hq).1,he.1.symm⟩)
  have:=hp t this;simp only[List.contains_iff_mem] at this;exact ht.1 this
 ·rw[if_neg (by simpa using ht.1)]
theorem P3 {keep D:List Nat} {p:Pat} {σ:St} {C C':List AV->St->Prop} (h:∀gs ls bs,C (xr gs ls bs) (qO P n keep D p σ gs ls bs)->C' (xr gs ls bs) (qO P n keep D p σ gs ls bs)) (hk:QI P n keep D p σ C):QI P n keep D p σ C' :=
 jZ _ (fun _ hk=>NB _ (fun _ hk=>jZ _ (fun _ hk=>h _ _ _ hk) hk) hk) hk
theorem N6 {keep D:List Nat} {p:Pat} {σ:St} {C:List AV->St->Prop} {gs:List AV} {ls:List (List AV)} {bs:List AV} (h1:js (p.gen.map (·.2)) gs=true) (h2:ls.length=p.app.length) (h3:js (p.bgen.map (·.2)) bs=true)
  (hk:QI P n keep D p σ C):C (xr gs ls bs) (qO P n keep D p σ gs ls bs):=by
 unfold QI at hk;have h4:=kX _ _ h1 hk;have h5:=La _ _ h2 h4;exact kX _ _ h3 h5
theorem Ut {nm:Bool} {esz:Nat} {ag:Bool} {len:Nat} {cs:List AV} {K K':List AV->Prop} (h:∀es,K es->K' es) (hk:Ur nm esz ag len cs K):Ur nm esz ag len cs K':=by
 unfold Ur at hk ⊢;split at hk
 ·rename_i hn;rw[if_pos hn];obtain ⟨es,h1,h2⟩:=hk;exact⟨es,h1,h es h2⟩
 ·rename_i hn;rw[if_neg hn];exact h _ hk
theorem W6 {nm:Bool} {t:Nat} {σ:St} {K K':St->Prop} (h:∀σ',FrD (fun i=>i=t) σ σ'->K σ'->K' σ') (hk:vz nm n t σ K):vz nm n t σ K':=by
 unfold vz at hk ⊢;split at hk
 ·rename_i hs
  (try simp only[hs])
  split at hk
  ·rename_i hb
   (try simp only[hb])
   split at hk
   ·rename_i hn;rw[if_pos hn];refine uM (fun hk=>Ut (fun es hk=>h _ ⟨by simp,fun i hi=>?_⟩ hk) hk) hk;simp only[List.getD,List.getElem?_set_ne (Ne.symm hi)]
   ·exact hk.elim
  ·exact hk.elim
 ·rename_i hs
  (try simp only[hs])
  split at hk
  ·rename_i hb
   (try simp only[hb])
   split at hk
   ·rename_i hn;rw[if_pos hn];refine h _ ⟨by simp,fun i hi=>?_⟩ hk;simp only[List.getD,List.getElem?_set_ne (Ne.symm hi)]
   ·exact hk.elim
  ·exact hk.elim
 ·exact h _ (.refl ..) hk
theorem MF {k t:Nat} {σ:St} {K K':St->Prop} (h:∀σ',FrD (fun i=>i=t) σ σ'->K σ'->K' σ') (hk:UH k t σ K):UH k t σ K':=by
 unfold UH at hk ⊢;generalize σ.sl.getD t .undef=v at hk ⊢;cases v with
 |int kd j=>exact⟨hk.1,KN hk.2 fun m hm=>h _ ⟨by simp,fun i hi=>by simp only[List.getD,List.getElem?_set_ne (Ne.symm hi)]⟩ hm⟩
 |_=>exact h _ (.refl ..) hk
theorem W7 {nm:Bool} {off c:Nat} {σ:St} {K K':St->Prop} (h:∀σ',FrD (fun _=>False) σ σ'->K σ'->K' σ') (hk:vC nm n off c σ K):vC nm n off c σ K':=by
 have h0:=h _ (.refl ..);unfold vC at hk ⊢;generalize σ.bx.getD c none=y at hk ⊢;cases y with
 |none=>exact h0 hk
 |some x =>
  dsimp only at hk ⊢;split at hk
  ·rename_i ha;rw[if_pos ha];exact h0 hk
  ·rename_i ha;rw[if_neg ha];generalize x.cs.getD off .undef=v at hk ⊢;cases v with
   |aslc b o len esz ag =>
    dsimp only at hk ⊢;generalize σ.zg b=z at hk ⊢;cases z with
    |none=>exact hk.elim
    |some cs =>
     dsimp only at hk ⊢;split at hk
     ·rename_i hc;rw[if_pos hc];exact uM (fun hk=>Ut (fun es hk=>h ⟨σ.sl,_⟩ ⟨rfl,fun _ _=>rfl⟩ hk) hk) hk
     ·exact hk.elim
   |_=>exact h0 hk
theorem LA {off c:Nat} {σ:St} {K K':St->Prop} (h:∀σ',FrD (fun _=>False) σ σ'->K σ'->K' σ') (hk:Tn off c σ K):Tn off c σ K':=by
 have h0:=h _ (.refl ..);unfold Tn at hk ⊢;generalize σ.bx.getD c none=y at hk ⊢;cases y with
 |none=>exact h0 hk
 |some x =>
  dsimp only at hk ⊢;split at hk
  ·rename_i ha;rw[if_pos ha];exact h0 hk
  ·rename_i ha;rw[if_neg ha];generalize x.cs.getD off .undef=v at hk ⊢;cases v with
   |slc m es =>
    cases m with
    |zero=>exact h0 hk
    |succ m =>
     obtain ⟨v,r,he,hk⟩:=hk;exact⟨v,r,he,h ⟨σ.sl,_⟩ ⟨rfl,fun _ _=>rfl⟩ hk⟩
   |aslc b o len esz ag =>
    obtain ⟨k,he,hk⟩:=hk;exact⟨k,he,h ⟨σ.sl,_⟩ ⟨rfl,fun _ _=>rfl⟩ hk⟩
   |_=>exact h0 hk
theorem Yx:∀ {ts:List Nat} {σ:St} {K K':St->Prop},(∀σ',FrD (fun i=>∃t∈ts,t<1000000000/\i=t % 1000000) σ σ'->K σ'->K' σ')->qn n ts σ K->qn n ts σ K':=by
 intro ts;induction ts with
 |nil=>intro σ K K' h hk;exact h _ (.refl ..) hk
 |cons t r ih =>
  intro σ K K' h hk;have rest:∀τ,FrD (fun i=>t<1000000000/\i=t % 1000000) σ τ->qn n r τ K->qn n r τ K':=fun τ hf hk =>
   ih (fun υ hf' hk=>h _ ((hf.weak fun i hi=>⟨t,List.mem_cons_self ..,hi⟩).trans (hf'.weak fun i ⟨q,hq,he⟩=>⟨q,List.mem_cons_of_mem _ hq,he⟩)) hk) hk
  simp only[qn] at hk ⊢;split at hk
  ·rename_i hlt;rw[if_pos hlt];exact W6 (fun τ hf hk=>rest τ (hf.weak fun i hi=>⟨by omega,by rw[hi,Nat.mod_eq_of_lt hlt]⟩) hk) hk
  ·rename_i hlt;rw[if_neg hlt];split at hk
   ·rename_i hlt2;rw[if_pos hlt2];split at hk
    ·rename_i h9;rw[if_pos h9];exact W6 (fun τ hf hk=>rest τ (hf.weak fun i hi=>⟨hlt2,hi⟩) hk) hk
    ·rename_i h9;rw[if_neg h9];exact MF (fun τ hf hk=>rest τ (hf.weak fun i hi=>⟨hlt2,hi⟩) hk) hk
   ·rename_i hlt2;rw[if_neg hlt2];split at hk
    ·rename_i h9;rw[if_pos h9];exact W7 (fun τ hf hk=>rest τ (hf.weak fun i hi=>hi.elim) hk) hk
    ·rename_i h9;rw[if_neg h9];split at hk
     ·rename_i h8;rw[if_pos h8];exact LA (fun τ hf hk=>rest τ (hf.weak fun i hi=>hi.elim) hk) hk
     ·rename_i h8;rw[if_neg h8];exact W7 (fun τ hf hk=>rest τ (hf.weak fun i hi=>hi.elim) hk) hk
theorem NM {L:Nat} {cap:List (Nat × Nat × TypeId)} {t:Nat} (h:t∈qH L cap):L<=t:=by
 unfold qH at h;obtain ⟨i,_,rfl⟩:=List.mem_map.1 h;omega
theorem Ky {D:List Nat} {p:Pat} {L:Nat} (h:xz D p=true):xz (D++qH L p.cap) (p.up L)=true:=by
 unfold xz at h ⊢;simp only[List.all_eq_true,List.contains_iff_mem,List.mem_append,Pat.up] at h ⊢;intro t ht;rcases ht with ht | ht
 ·exact .inl (h t (.inl ht))
 ·rw[List.map_append,List.mem_append] at ht;rcases ht with ht | ht
  ·exact .inl (h t (.inr ht))
  ·obtain ⟨q,hq,rfl⟩:=List.mem_map.1 ht;obtain ⟨r,hr,rfl⟩:=wy hq;exact .inr (List.of_mem_zip hr).1
theorem K4 {p:Pat} {L:Nat}:(p.up L).app.length=p.app.length+p.cap.length:=by
 simp[Pat.up,qH]
theorem kr {keep D:List Nat} {p:Pat} {σ:St} {gs:List AV} {ls:List (List AV)} {bs:List AV} (hp:xz D p=true) :
  FrD (fun t=>t∈D\/t∉keep) σ (wG p.cap (qO P n (keep++qH σ.sl.length p.cap) (D++qH σ.sl.length p.cap) (p.up σ.sl.length) (jM p.cap σ) gs ls bs)):=by
 obtain ⟨l1,l2⟩:=Ug p.cap σ;have hf:=N7 (P:=P) (n:=n) (keep:=keep++qH σ.sl.length p.cap) (σ:=jM p.cap σ) (gs:=gs) (ls:=ls) (bs:=bs) (Ky (L:=σ.sl.length) hp);obtain ⟨d1,d2⟩:=LI p.cap (qO P n (keep++qH σ.sl.length p.cap) (D++qH σ.sl.length p.cap) (p.up σ.sl.length) (jM p.cap σ) gs ls bs) (by rw[hf.1,l1];omega);refine⟨by rw[d1,hf.1,l1];omega,fun t ht=>?_⟩;simp only[not_or,Classical.not_not] at ht;rcases Nat.lt_or_ge t σ.sl.length with hl | hl
 ·rw[d2 t (by rw[hf.1,l1];omega),hf.2 t ?_,l2 t hl];rintro (h | h)
  ·rcases List.mem_append.1 h with h | h
   ·exact ht.1 h
   ·have:=NM h;omega
  ·exact h (List.mem_append_left _ ht.2)
 ·rw[yM (by rw[d1,hf.1,l1];omega),yM hl]
theorem j5 {keep D:List Nat} {p:Pat} {σ:St} {C C':List AV->St->Prop}
  (h:∀gs ls bs,C (xr gs ls bs) (wG p.cap (qO P n (keep++qH σ.sl.length p.cap) (D++qH σ.sl.length p.cap) (p.up σ.sl.length) (jM p.cap σ) gs ls bs)) ->
   C' (xr gs ls bs) (wG p.cap (qO P n (keep++qH σ.sl.length p.cap) (D++qH σ.sl.length p.cap) (p.up σ.sl.length) (jM p.cap σ) gs ls bs))) (hk:jI P n keep D p σ C):jI P n keep D p σ C':=by
 unfold jI at *;exact P3 h hk
theorem qu {keep D:List Nat} {p:Pat} {σ0 σ:St} {entry:Bool} {C:List AV->Prop} (hlen:σ.sl.length=σ0.sl.length) (hkept:∀t,t∈keep->t∉D->σ.sl.getD t .undef=σ0.sl.getD t .undef) (hen:entry=true->σ0=σ)
  (hk:qa P n keep D p entry σ0 σ C):∃gs ls bs,C (xr gs ls bs)/\js (p.gen.map (·.2)) gs=true/\ls.length=p.app.length+p.cap.length/\js (p.bgen.map (·.2)) bs=true /\
   xL n σ (wG p.cap (qO P n (keep++qH σ0.sl.length p.cap) (D++qH σ0.sl.length p.cap) (p.up σ0.sl.length) (jM p.cap σ0) gs ls bs)):=by
 unfold qa at hk;dsimp only at hk;split at hk
 case isFalse=>exact hk.elim
 rename_i hc;obtain ⟨a1,a2⟩:=Ug p.cap σ;obtain ⟨b1,b2⟩:=Ug p.cap σ0;obtain ⟨gs,ls,bs,h1,h2,h3,h4,h5⟩:=Pl (by rw[a1,b1,hlen]) (fun t ht hd=>by
  simp only[List.mem_append,not_or] at ht hd;rcases ht with ht | ht
  ·rcases Nat.lt_or_ge t σ0.sl.length with hl | hl
   ·rw[a2 t (by omega),b2 t hl];exact hkept t ht hd.1
   ·by_cases hl2:t<σ0.sl.length+p.cap.length
    ·exact absurd (List.mem_map.2 ⟨t-σ0.sl.length,List.mem_range.2 (by omega),by omega⟩) hd.2
    ·rw[yM (by rw[a1];omega),yM (by rw[b1];omega)]
  ·exact absurd ht hd.2) (fun he=>by rw[hen he]) hk
 refine⟨gs,ls,bs,h1,h2,?_,h4,(LJ p.cap hc h5).zY⟩;rw[h3,K4]
theorem jU {keep D:List Nat} {p:Pat} {σ:St} {C:List AV->St->Prop} {gs:List AV} {ls:List (List AV)} {bs:List AV} (h1:js (p.gen.map (·.2)) gs=true) (h2:ls.length=p.app.length+p.cap.length) (h3:js (p.bgen.map (·.2)) bs=true)
  (hk:jI P n keep D p σ C):C (xr gs ls bs) (wG p.cap (qO P n (keep++qH σ.sl.length p.cap) (D++qH σ.sl.length p.cap) (p.up σ.sl.length) (jM p.cap σ) gs ls bs)) :=
 by
 unfold jI at hk;exact N6 (p:=p.up σ.sl.length) h1 (by rw[h2,K4]) h3 hk
theorem W4 {l:List AV}:∀(ts:List Nat) (t:Nat),t∉ts->(ts.foldl (fun l t=>l.set t .undef) l).getD t .undef=l.getD t .undef:=by
 intro ts;induction ts generalizing l with
 |nil=>intro t _;rfl
 |cons x r ih =>
  intro t ht;simp only[List.mem_cons,not_or] at ht;simp only[List.foldl_cons];rw[ih t ht.2];simp only[List.getD,List.getElem?_set_ne (Ne.symm ht.1)]
theorem Yf {l:List AV}:∀(ts:List Nat),(ts.foldl (fun l t=>l.set t .undef) l).length=l.length:=by
 intro ts;induction ts generalizing l with
 |nil=>rfl
 |cons x r ih=>simp only[List.foldl_cons,ih,List.length_set]
theorem Sf (hI:kF S.inl) {ctl:Ctl}:∀(c:Code) {n:Nat} {σ:St} {K K':Ex->St->Prop},(∀e σ',FrD (CD ctl c) σ σ'->K e σ'->K' e σ')->awp P S n ctl c σ K->awp P S n ctl c σ K':=by
 intro c;induction c with
 |skip=>intro n σ K K' h hk;exact h _ _ (.refl ..) hk
 |region id ops draw =>
  intro n σ K K' h hk;have hc:∀τ σ',FrD (fun i=>∃t∈ctl.zC id,t<1000000000/\i=t % 1000000) σ τ->FrD (Yp (qg ops.toList)) τ σ'->FrD (CD ctl (.region id ops draw)) σ (clean ctl.keep σ'):=fun τ σ' hz hf =>
   ((hz.weak fun t ⟨u,hu,hlt,ht⟩=>.inl (List.mem_append_right _ (by obtain ⟨q,hq,he⟩:=List.mem_map.1 hu;exact List.mem_map.2 ⟨q,List.mem_filter.2 ⟨(List.mem_filter.1 hq).1,by rw[he];exact decide_eq_true hlt⟩,by rw[he,ht]⟩))).trans
   (hf.weak fun t ht=>.inl (List.mem_append_left _ (List.mem_filterMap.2 (by obtain ⟨o,ho,he⟩:=List.mem_map.1 ht;exact⟨o,ho,he⟩))))).trans ((Lw ctl.keep σ').weak fun t ht=>.inr ht)
  cases draw with
  |true =>
   simp only[awp,qN,wR,j0] at hk ⊢;refine Yx (fun τ hz hk=>?_) hk;split at hk
   ·rename_i hc2;rw[if_pos hc2];exact LF hI (fun σ' hf hk=>h _ _ (hc τ σ' hz hf) hk) hk
   ·exact hk.elim
  |false =>
   simp only[awp,qN,wR] at hk ⊢;refine Yx (fun τ hz hk=>?_) hk;split at hk
   ·rename_i hm;rw[if_pos hm];exact Lc hI _ (fun o ho=>List.mem_map.2 ⟨o,ho,rfl⟩) (fun σ' hf hk=>h _ _ (hc τ σ' hz hf) hk) hk
   rename_i hm;rw[if_neg hm];exact Je hI _ (fun o ho=>List.mem_map.2 ⟨o,ho,rfl⟩) (fun σ' hf hk=>h _ _ (hc τ σ' hz hf) hk) hk
 |seq a b iha ihb =>
  intro n σ K K' h hk;have ha:∀ {σ σ'},FrD (CD ctl a) σ σ'->FrD (CD ctl (.seq a b)) σ σ':=fun hf=>hf.weak fun t ht=>ht.imp Y4.1 id
  have hb:∀ {σ σ'},FrD (CD ctl b) σ σ'->FrD (CD ctl (.seq a b)) σ σ':=fun hf=>hf.weak fun t ht=>ht.imp Y4.2 id
  simp only[awp,qN] at hk ⊢;split at hk
  ·rename_i p hp;unfold Nd at hk ⊢;split at hk
   case isFalse=>exact hk.elim
   rename_i hin;rw[if_pos hin];obtain ⟨J,h1,h2⟩:=hk;refine⟨J,iha (fun e σ' hf hk=>?_) h1,j5 (fun gs ls bs hk hj=>ihb (fun e σ' hf hk=>h _ _ ?_ hk) (hk hj)) h2⟩
   ·cases e with
    |normal=>exact hk
    |exit i=>exact h _ _ (ha hf) hk
    |ret=>exact h _ _ (ha hf) hk
   ·exact(ha (kr hin)).trans (hb hf)
  ·refine iha (fun e σ' hf hk=>?_) hk;cases e with
   |normal=>exact ihb (fun e σ'' hf' hk=>h _ _ ((ha hf).trans (hb hf')) hk) hk
   |exit i=>exact h _ _ (ha hf) hk
   |ret=>exact h _ _ (ha hf) hk
 |cond c a b iha ihb =>
  intro n σ K K' h hk;have ha:∀ {σ σ'},FrD (CD ctl a) σ σ'->FrD (CD ctl (.cond c a b)) σ σ':=fun hf=>hf.weak fun t ht=>ht.imp Y4.1 id
  have hb:∀ {σ σ'},FrD (CD ctl b) σ σ'->FrD (CD ctl (.cond c a b)) σ σ':=fun hf=>hf.weak fun t ht=>ht.imp Y4.2 id
  simp only[awp,qN] at hk ⊢;split at hk
  ·exact iha (fun e σ' hf hk=>h _ _ (ha hf) hk) hk
  ·exact ihb (fun e σ' hf hk=>h _ _ (hb hf) hk) hk
  ·exact YY (iha (fun e σ' hf hk=>h _ _ (ha hf) hk)) (ihb (fun e σ' hf hk=>h _ _ (hb hf) hk)) hk
  ·exact hk.elim
 |block id b ih =>
  intro n σ K K' h hk;simp only[awp,qN] at hk ⊢;refine ih (fun e σ' hf hk=>?_) hk;cases e with
  |normal=>exact h _ _ hf hk
  |exit i =>
   simp only at hk ⊢;split at hk
   ·rename_i hi;rw[if_pos hi];exact h _ _ hf hk
   ·rename_i hi;rw[if_neg hi];exact h _ _ hf hk
  |ret=>exact h _ _ hf hk
 |loop b ih =>
  intro n σ K K' h hk;simp only[awp,qN] at hk ⊢;split at hk
  ·rename_i p hp;unfold Nj at hk ⊢;split at hk
   case isFalse=>exact hk.elim
   rename_i hin;rw[if_pos hin];obtain ⟨I,h1,h2⟩:=hk;refine⟨I,h1,fun m=>j5 (fun gs ls bs hk hj=>ih (fun e σ' hf hk=>?_) (hk hj)) (h2 m)⟩;have hff:FrD (CD ctl (.loop b)) σ σ':=(FrD.weak (kr hin) fun t ht=>ht).trans (hf.weak fun t ht=>ht);cases e with
   |normal=>exact hk
   |exit i=>exact h _ _ hff hk
   |ret=>exact h _ _ hff hk
  ·have key:∀(m:Nat) {σ1:St},FrD (CD ctl (.loop b)) σ σ1->QO (qN P S ctl b n) m σ1 K->QO (qN P S ctl b n) m σ1 K':=by
    intro m;induction m with
    |zero=>intro σ1 _ hk;exact hk.elim
    |succ m ihm =>
     intro σ1 h1 hk;refine ih (fun e σ2 hf hk=>?_) hk;have hff:FrD (CD ctl (.loop b)) σ σ2:=h1.trans (hf.weak fun t ht=>ht);cases e with
     |normal=>exact ihm hff hk
     |exit i=>exact h _ _ hff hk
     |ret=>exact h _ _ hff hk
   exact key 13 (.refl ..) hk
 |exit id=>intro n σ K K' h hk;exact h _ _ (.refl ..) hk
 |ret=>intro n σ K K' h hk;exact h _ _ (.refl ..) hk
 |rangeFunc g ps x y ihx ihy =>
  intro n σ K K' h hk;simp only[awp,qN] at hk ⊢;split at hk
  case h_2=>exact hk.elim
  rename_i p hp;split at hk
  case isFalse=>exact hk.elim
  rename_i hnr;rw[if_pos hnr];unfold SM at hk ⊢;split at hk
  case h_2=>exact hk.elim
  split at hk
  case h_2=>exact hk.elim
  split at hk
  case isFalse=>exact hk.elim
  rename_i hc;rw[if_pos hc];simp only[Bool.and_eq_true] at hc;have hin:xz [] p=true:=hc.2;obtain ⟨xs,h1,hway⟩:=hk;have h0:∀(sl:List AV) (bx bx':List (Option Bx)),FrD (CD ctl (.rangeFunc g ps x y)) σ ⟨sl,bx⟩->FrD (CD ctl (.rangeFunc g ps x y)) σ ⟨sl,bx'⟩:=fun sl bx bx' hf=>⟨hf.1,hf.2⟩
  have hs0:FrD (CD ctl (.rangeFunc g ps x y)) σ ⟨(SS g++(ctl.fz.filter (fun q:Nat × Nat=>decide (q.2<1000000000))).map (fun q:Nat × Nat=>q.2 % 1000000)).foldl (fun l t=>l.set t .undef) σ.sl,σ.bx⟩:=by
   refine⟨Yf _,fun t ht=>W4 _ t fun hm=>ht (.inl ?_)⟩;rcases List.mem_append.1 hm with hm | hm
   case inr=>exact List.mem_append_right _ hm
   refine List.mem_append_left _ ?_;unfold SS at hm;cases g with
   |tmp q=>simp only[List.mem_singleton] at hm;subst hm;simp[uj]
   |_=>simp at hm
  have round:∀ {τ:St} {x1:List AV} {N N':St->Prop},FrD (CD ctl (.rangeFunc g ps x y)) σ τ->(∀bx,N ⟨τ.sl,bx⟩->N' ⟨τ.sl,bx⟩) ->
    (if yq τ && decide (n<=τ.bx.length) then (fun τ K'=>qN P S ctl x (τ.bx.length-τ.sl.length) τ fun e σa=>match e with
     |.normal=>if yq σa && (List.range (τ.bx.length-τ.sl.length)).all (fun b=>qf τ.bx b == qf σa.bx b) then qN P S ctl y σa.bx.length (σa.more (σa.sl.length+8)) K' else False
     |_=>False) ⟨jP τ.sl ps.toList x1,τ.bx++List.replicate τ.sl.length none⟩ (fun e σ1=>if qz n τ.bx σ1.bx then (match e with
      |.normal=>N ⟨τ.sl,σ1.bx⟩
      |e=>K e ⟨τ.sl,σ1.bx⟩) else False) else False) ->
    (if yq τ && decide (n<=τ.bx.length) then (fun τ K'=>qN P S ctl x (τ.bx.length-τ.sl.length) τ fun e σa=>match e with
     |.normal=>if yq σa && (List.range (τ.bx.length-τ.sl.length)).all (fun b=>qf τ.bx b == qf σa.bx b) then qN P S ctl y σa.bx.length (σa.more (σa.sl.length+8)) K' else False
     |_=>False) ⟨jP τ.sl ps.toList x1,τ.bx++List.replicate τ.sl.length none⟩ (fun e σ1=>if qz n τ.bx σ1.bx then (match e with
      |.normal=>N' ⟨τ.sl,σ1.bx⟩
      |e=>K' e ⟨τ.sl,σ1.bx⟩) else False) else False):=by
   intro τ x1 N N' hfr hN hk;split at hk
   ·rename_i hl;rw[if_pos hl];refine ihx (fun e σa _ hk=>?_) hk;cases e with
    |normal =>
     dsimp only at hk ⊢;split at hk
     ·rename_i hl2;rw[if_pos hl2];refine ihy (fun e σ1 _ hk=>?_) hk;split at hk
      case isFalse=>exact hk.elim
      rename_i hbk;rw[if_pos hbk];cases e with
      |normal=>exact hN _ hk
      |exit i=>exact h _ _ (h0 _ _ _ hfr) hk
      |ret=>exact h _ _ (h0 _ _ _ hfr) hk
     ·exact hk.elim
    |exit i=>exact hk.elim
    |ret=>exact hk.elim
   ·exact hk.elim
  refine⟨xs,h1,?_⟩;dsimp only at hway ⊢;split at hway
  ·rename_i hun;rw[if_pos hun];obtain ⟨h2,hnil,I,h3,h4,h5⟩:=hway;refine⟨h2,fun he=>h _ _ (h0 _ _ _ hs0) (hnil he),I,jZ _ (fun z hk hz=>?_) h3,fun i=>jZ _ (fun z hk hz=>j5 (fun gs ls bs hk hj=>?_) (hk hz)) (h4 i),j5 (fun gs ls bs hk hj=>h _ _ ?_ (hk hj)) h5⟩
   ·exact round (N:=fun τ'=>qa P n ctl.keep [] _ false _ τ' (I 1)) (N':=fun τ'=>qa P n ctl.keep [] _ false _ τ' (I 1)) (h0 _ _ _ hs0) (fun bx hk=>hk) (hk hz)
   ·exact round (N:=fun τ'=>qa P n ctl.keep [] _ false _ τ' (I (i+2))) (N':=fun τ'=>qa P n ctl.keep [] _ false _ τ' (I (i+2))) ((h0 _ _ _ hs0).trans ((kr (p:=p.res n _) hin).weak fun t ht=>ht.elim (fun h=>by cases h) .inr)) (fun bx hk=>hk) (hk hj)
   ·exact(h0 _ _ _ hs0).trans ((kr (p:=p.res n _) hin).weak fun t ht=>ht.elim (fun h=>by cases h) .inr)
  rename_i hpl;rw[if_neg hpl];split at hway
  ·rename_i hun;rw[if_pos hun];refine⟨hway.1,?_⟩;have key:∀(ys:List (List AV)) (τ:St),FrD (CD ctl (.rangeFunc g ps x y)) σ τ->YC n ps.toList (fun τ K'=>qN P S ctl x (τ.bx.length-τ.sl.length) τ fun e σa=>match e with
     |.normal=>if yq σa && (List.range (τ.bx.length-τ.sl.length)).all (fun b=>qf τ.bx b == qf σa.bx b) then qN P S ctl y σa.bx.length (σa.more (σa.sl.length+8)) K' else False
     |_=>False) K ys τ->YC n ps.toList (fun τ K'=>qN P S ctl x (τ.bx.length-τ.sl.length) τ fun e σa=>match e with
     |.normal=>if yq σa && (List.range (τ.bx.length-τ.sl.length)).all (fun b=>qf τ.bx b == qf σa.bx b) then qN P S ctl y σa.bx.length (σa.more (σa.sl.length+8)) K' else False
     |_=>False) K' ys τ:=by
    intro ys;induction ys with
    |nil=>intro τ hfr hk;exact h _ _ hfr hk
    |cons z r ih=>intro τ hfr hk;exact round hfr (fun bx hk=>ih _ (h0 _ _ _ hfr) hk) hk
   exact key _ _ (h0 _ _ _ hs0) hway.2
  rename_i hun;rw[if_neg hun];obtain ⟨h2,I,h3,h4,h5⟩:=hway;refine⟨h2,I,h3,fun i=>jZ _ (fun z hk hz=>j5 (fun gs ls bs hk hj=>?_) (hk hz)) (h4 i),j5 (fun gs ls bs hk hj=>h _ _ ?_ (hk hj)) h5⟩
  ·exact round (N:=fun τ'=>qa P n ctl.keep [] _ false _ τ' (I (i+1))) (N':=fun τ'=>qa P n ctl.keep [] _ false _ τ' (I (i+1))) ((h0 _ _ _ hs0).trans ((kr (p:=p.res n _) hin).weak fun t ht=>ht.elim (fun h=>by cases h) .inr)) (fun bx hk=>hk) (hk hj)
  ·exact(h0 _ _ _ hs0).trans ((kr (p:=p.res n _) hin).weak fun t ht=>ht.elim (fun h=>by cases h) .inr)
 |scope b _=>intro n σ K K' h hk;exact hk.elim
 |label l=>intro n σ K K' h hk;exact hk.elim
 |goto l=>intro n σ K K' h hk;exact hk.elim
 |refuse s=>intro n σ K K' h hk;exact hk.elim
theorem P6 (hI:kF S.inl) {ctl:Ctl} {b:Code} {K:Ex->St->Prop}:∀ {m k:Nat} {σ:St},m<=k->Tx n (awp P S n ctl b) m σ K->Tx n (awp P S n ctl b) k σ K:=by
 intro m;induction m with
 |zero=>intro k σ _ h;exact h.elim
 |succ m ih =>
  intro k σ hk h;cases k with
  |zero=>omega
  |succ k =>
   refine Sf hI b (fun e σ' _ h=>?_) h;cases e with
   |normal=>obtain ⟨σ'',hw,h⟩:=h;exact⟨σ'',hw,ih (by omega) h⟩
   |exit i=>exact h
   |ret=>exact h
theorem Ob (hI:kF S.inl) {ctl:Ctl} {b:Code} {p:Pat} {σ:St} {K:Ex->St->Prop} (h:Nj P n ctl.keep (ctl.dsts b) p (awp P S n ctl b) σ K):∃σ',xL n σ σ'/\∃m,Tx n (awp P S n ctl b) m σ' K:=by
 unfold Nj at h;split at h
 case isFalse=>exact h.elim
 rename_i hin;obtain ⟨I,h1,h2⟩:=h;have key:∀(m:Nat) (gs:List AV) (ls:List (List AV)) (bs:List AV),I m (xr gs ls bs)->js (p.gen.map (·.2)) gs=true->ls.length=p.app.length+p.cap.length->js (p.bgen.map (·.2)) bs=true ->
   Tx n (awp P S n ctl b) (m+1) (wG p.cap (qO P n (ctl.keep++qH σ.sl.length p.cap) (ctl.dsts b++qH σ.sl.length p.cap) (p.up σ.sl.length) (jM p.cap σ) gs ls bs)) K:=by
  intro m;induction m using Nat.strongRecOn with
  |_ m ih =>
   intro gs ls bs hI' h3 h4 h5;refine Sf hI b (fun e σ' hf hk=>?_) (jU h3 h4 h5 (h2 m) hI');cases e with
   |exit i=>exact hk
   |ret=>exact hk
   |normal =>
    have hff:=(kr (P:=P) (n:=n) (keep:=ctl.keep) (σ:=σ) (gs:=gs) (ls:=ls) (bs:=bs) hin).trans (hf.weak fun t ht=>ht);obtain ⟨gs',ls',bs',⟨k,hk,hI'⟩,h3,h4,h5,hw⟩:=qu hff.1 (fun t h1 h2=>hff.2 t (by simp only[not_or,Classical.not_not];exact⟨h2,h1⟩)) (by simp) hk;exact⟨_,hw,P6 hI (by omega) (ih k hk gs' ls' bs' hI' h3 h4 h5)⟩
 obtain ⟨gs,ls,bs,⟨m,hI'⟩,h3,h4,h5,hw⟩:=qu rfl (fun _ _ _=>rfl) (fun _=>rfl) h1;exact⟨_,hw,_,key m gs ls bs hI' h3 h4 h5⟩
theorem Me (hI:kF S.inl) {ctl:Ctl} {a:Code} {g:St->(Ex->St->Prop)->Prop} {p:Pat} {k:Nat} {σ:St} {K:Ex->St->Prop} (h:Nd P n ctl.keep (ctl.dsts a) p (fun σ K'=>awp P S n ctl a σ fun e σ=>match e with
   |.normal=>qn n (ctl.zC k) σ fun σ=>K' .normal σ
   |e=>K' e σ) g σ K) :
  awp P S n ctl a σ fun e σ1=>match e with
   |.normal=>qn n (ctl.zC k) σ1 fun σ1=>∃σ',xL n σ1 σ'/\g σ' K
   |e=>K e σ1:=by
 unfold Nd at h;split at h
 case isFalse=>exact h.elim
 rename_i hin;obtain ⟨J,h1,h2⟩:=h;refine Sf hI a (fun e σ' hf hk=>?_) h1;cases e with
 |exit i=>exact hk
 |ret=>exact hk
 |normal =>
  refine Yx (fun τ hz hk=>?_) hk;have hf:=hf.trans (hz.weak (D':=CD ctl a) fun t ⟨u,hu,hlt,ht⟩=>.inl (List.mem_append_right _ (by obtain ⟨q,hq,he⟩:=List.mem_map.1 hu;exact List.mem_map.2 ⟨q,List.mem_filter.2 ⟨(List.mem_filter.1 hq).1,by rw[he];exact decide_eq_true hlt⟩,by rw[he,ht]⟩)));obtain ⟨gs,ls,bs,hJ,h3,h4,h5,hw⟩:=qu hf.1 (fun t h1 h2=>hf.2 t (by simp only[CD,not_or,Classical.not_not];exact⟨h2,h1⟩)) (by simp) hk;exact⟨_,hw,jU h3 h4 h5 h2 hJ⟩
end
end Go.Proofs.YtkojpnkknehhmaaGreatDoor

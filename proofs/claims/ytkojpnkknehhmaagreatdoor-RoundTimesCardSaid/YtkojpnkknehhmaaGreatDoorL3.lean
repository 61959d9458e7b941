/- What is followed may be followed to more; and slots that code does not write are as they were. Heads of loops and joins: what is known there is less than what was known before. Loops by what holds at their heads; paths that join. -/
import Derived.Test.YtkojpnkknehhmaaGreatDoorW0
namespace Go.Proofs.YtkojpnkknehhmaaGreatDoor
open Go.RowKit
def FrD (D:Nat->Prop) (σ σ':St):Prop:=σ'.sl.length=σ.sl.length/\∀t,¬ D t->σ'.sl.getD t .undef=σ.sl.getD t .undef
theorem FrD.refl (D:Nat->Prop) (σ:St):FrD D σ σ:=⟨rfl,fun _ _=>rfl⟩
theorem FrD.trans {D:Nat->Prop} {σ τ υ:St} (h:FrD D σ τ) (h':FrD D τ υ):FrD D σ υ:=⟨h'.1.trans h.1,fun t ht=>(h'.2 t ht).trans (h.2 t ht)⟩
theorem FrD.weak {D D':Nat->Prop} {σ τ:St} (h:FrD D σ τ) (hd:∀t,D t->D' t):FrD D' σ τ:=⟨h.1,fun t ht=>h.2 t fun hh=>ht (hd t hh)⟩
def Dst (d:Option Nat) (t:Nat):Prop:=d=some t
theorem FrD.put (σ:St) (d:Option Nat) (v:AV):FrD (Dst d) σ (σ.put d v):=by
 cases d with
 |none=>exact .refl ..
 |some d =>
  refine⟨by simp[St.put],fun t ht=>?_⟩;have:d≠t:=fun h=>ht (by rw[h];rfl)
  simp only[St.put,List.getD,List.getElem?_set_ne this]
theorem FrD.bx (σ:St) (D:Nat->Prop) (bx:List (Option Bx)):FrD D σ { σ with bx:=bx }:=⟨rfl,fun _ _=>rfl⟩
theorem Ang.mono {α:Type} {F:(α->Prop)->Prop} (hF:Ang F) {K K':α->Prop} (h:∀v,K v->K' v) (hk:F K):F K':=by
 obtain ⟨v,h1,h2⟩:=hF K hk;exact h2 K' (h v h1)
theorem uN {g:Nat->Option (List AV)} {l:List (Nat × Nat × Nat × Bool)} {K K':Prop} (h:K->K') (hk:q8 g l K):q8 g l K':=by
 obtain ⟨h1,h2⟩:=U4 hk;exact h2 g K' (fun _ _=>rfl) (h h1)
mutual
theorem XO:∀(v:AV) (k:AV->Prop),xU v k=k v
 |.undef,_ | .tt,_ | .ff,_ | .bool _,_ | .lit _ _,_ | .int _ _,_ | .str _,_ | .nilp,_ | .ref _ _,_ | .slc _ _,_ | .aslc _ _ _ _ _,_ | .nilfn,_ | .nilif,_ | .map _,_ | .nilmap,_ | .yld _,_=>by simp only[xU]
 |.eptr cs off,k=>by simp only[xU,jU cs]
 |.fn f a c,k=>by simp only[xU,jU a,jU c]
 |.iface t v,k=>by simp only[xU,XO v]
 |.agg cs,k=>by simp only[xU,jU cs]
 |.tup cs,k=>by simp only[xU,jU cs]
theorem jU:∀(l:List AV) (k:List AV->Prop),kU l k=k l
 |[],_=>by simp only[kU]
 |x::r,k=>by simp only[kU,XO x,jU r]
end
theorem Oy (keep:List Nat):∀(l:List AV) (i:Nat) (k:List AV->Prop),Y9 keep i l k=k (xC (fun j v=>if keep.contains j then v else .undef) i l):=by
 intro l;induction l with
 |nil=>intro i k;rfl
 |cons x r ih =>
  intro i k;simp only[Y9,XO,ih,xC];split<;>rfl
theorem Ox:∀(l:List (Option Bx)) (k:List (Option Bx)->Prop),vD l k=k l:=by
 intro l;induction l with
 |nil=>intro k;rfl
 |cons x r ih =>
  intro k;cases x with
  |none=>simp only[vD,ih]
  |some x =>
   obtain ⟨t,a,cs⟩:=x;cases a<;>simp only[vD,ih,jU]
theorem wU (keep:List Nat) (σ:St) (K:St->Prop):Yv keep σ K=K (clean keep σ):=by
 simp only[Yv,Oy,Ox,clean,UC]
section
variable {P:Program} {S:Specs} {n:Nat}
theorem wm {d:Nat} {x:Bx} {p:AV} {σ:St} {K K':St->Prop} (h:∀σ',FrD (Dst (some d)) σ σ'->K σ'->K' σ') (hk:qV n d x p σ K):qV n d x p σ K':=by
 unfold qV at *;split at hk
 ·rename_i hc;rw[if_pos hc];exact h _ ((FrD.put σ (some d) p).trans (.bx _ _ _)) hk
 ·exact hk.elim
theorem L7 {f:FuncId} {args:List AV} {d:Option Nat} {σ:St} {K K':St->Prop} (h:∀σ',FrD (Dst d) σ σ'->K σ'->K' σ') (hk:jG P S n f args d σ K):jG P S n f args d σ K':=by
 unfold jG at *;dsimp only at *;split at hk
 case h_2=>exact hk.elim
 rename_i bs fn hb hf;try simp only[hb,hf]
 split at hk
 ·exact hk.elim
 rename_i hc;rw[if_neg hc];refine uN (fun hk=>?_) hk;refine uS.mono (fun v hk=>?_) hk;refine(Y8 _).mono (fun O hk=>⟨hk.1,?_⟩) hk;have hk:=hk.2;split at hk
 ·rename_i h1;rw[if_pos h1];exact h _ ((FrD.bx σ _ _).trans (.put _ d _)) hk
 ·rename_i h1;rw[if_neg h1];split at hk
  ·rename_i h2;rw[if_pos h2];exact h _ ((FrD.bx σ _ _).trans (.put _ d _)) hk
  ·exact hk.elim
def kF (il:vZ):Prop:=∀f args σ (K K':AV->St->Prop),(∀v σ',σ'.sl=σ.sl->K v σ'->K' v σ')->il f args σ K->il f args σ K'
theorem W0 (hI:kF S.inl) {f:FuncId} {args:List AV} {d:Option Nat} {σ:St} {K K':St->Prop} (h:∀σ',FrD (Dst d) σ σ'->K σ'->K' σ') (hk:vR P S n f args d σ K):vR P S n f args d σ K':=by
 unfold vR at *;split at hk
 ·rename_i hc;rw[if_pos hc];refine hI f args σ _ _ (fun v σ' hsl hk=>?_) hk;split at hk
  ·rename_i hb;rw[if_pos hb];refine h _ ?_ hk;have:FrD (Dst d) σ σ':=⟨by rw[hsl],fun t _=>by rw[hsl]⟩;exact this.trans (.put _ d _)
  ·exact hk.elim
 ·rename_i hc;rw[if_neg hc];exact L7 h hk
theorem M0 {ts:List TypeId} {b len:Nat} {K K':Nat->AV->Prop} (h:∀k v,K k v->K' k v) (hk:K7 ts b len K):K7 ts b len K':=by
 unfold K7 at *;split at hk
 ·exact h _ _ hk
 ·obtain ⟨m,h1,h2⟩:=hk;exact⟨m,h1,h _ _ h2⟩
 ·exact hk.elim
theorem IL {f:FuncId} {b len:Nat} {d:Option Nat} {σ:St} {K K':St->Prop} (h:∀σ',FrD (Dst d) σ σ'->K σ'->K' σ') (hk:MY P S f b len d σ K):MY P S f b len d σ K':=by
 unfold MY at *;split at hk
 ·split at hk
  ·rename_i hx ha;try simp only[hx]
   rw[if_pos ha];refine M0 (fun k v hq=>?_) hk;obtain ⟨zs,zs',h1,h2⟩:=hq;refine⟨zs,zs',h1,h _ ?_ h2⟩;have:FrD (Dst d) σ { σ with bx:=σ.bx.set b (some { (by assumption:Bx) with cs:=zs'.map (AV.int .i64) }) }:=⟨rfl,fun t _=>rfl⟩;exact FrD.trans ⟨rfl,fun t _=>rfl⟩ (.put _ d _)
  ·exact hk.elim
 ·exact hk.elim
theorem L8 {f:FuncId} {args:List AV} {d:Option Nat} {σ:St} {K K':St->Prop} (h:∀σ',FrD (Dst d) σ σ'->K σ'->K' σ') (hk:Y3 P S n f args d σ K):Y3 P S n f args d σ K':=by
 unfold Y3 at *;split at hk
 ·rename_i b len hm;try simp only[hm]
  exact IL h hk
 rename_i hm;try simp only[hm]
 split at hk
 ·split at hk
  ·rename_i ht;obtain ⟨es,h1,h2⟩:=hk;try simp only
   rw[if_pos ht];exact⟨es,h1,wm h h2⟩
  ·exact hk.elim
 ·exact hk.elim
theorem L9 {f:FuncId} {args:List AV} {d:Option Nat} {σ:St} {K K':St->Prop} (h:∀σ',FrD (Dst d) σ σ'->K σ'->K' σ') (hk:ui P S n f args d σ K):ui P S n f args d σ K':=by
 unfold ui at *;split at hk
 ·rename_i hc;try simp only[hc]
  split at hk
  ·split at hk
   ·rename_i h1 h2 h3;try simp only[h1,h2,h3]
    exact⟨hk.1,h _ (.put σ d _) hk.2⟩
   ·exact hk.elim
  ·exact hk.elim
 ·rename_i hc;try simp only[hc]
  exact L8 h hk
theorem Ux {t:TypeId} {σ:St} {x:AV} {K K':AV->Prop} (h:∀v,K v->K' v) (hk:vT P t σ x K):vT P t σ x K':=by
 obtain ⟨v,h1,h2⟩:=Wi hk;exact h2 σ (fun _ _=>rfl) K' (h v h1)
theorem Ln {t:TypeId} {σ:St} {a v:AV} {K K':St->Prop} (h:∀σ',FrD (fun _=>False) σ σ'->K σ'->K' σ') (hk:xW P t σ a v K):xW P t σ a v K':=by
 obtain ⟨b,x,_,_,h1,h2⟩:=Xr hk;exact h2 σ (fun _ _=>rfl) K' (h _ (.bx _ _ _) h1)
theorem PD {t:TypeId} {σ:St} {x:AV} {lo hi mx:Option AV} {K K':AV->Prop} (h:∀v,K v->K' v) (hk:kA P t σ x lo hi mx K):kA P t σ x lo hi mx K':=by
 unfold kA at *;repeat' split at hk
 all_goals first
  |exact hk.elim
  |(simp_all;done)
  |(obtain ⟨h1,h2⟩:=hk;simp_all;done)
  |(obtain ⟨⟨h0,h1,h1'⟩,h2⟩:=hk;subst h1;simp_all;done)
theorem U3 {k:Nat} {σ:St} {x:AV} {K K':Nat->List AV->Prop} (h:∀m l,K m l->K' m l) (hk:qz σ k x K):qz σ k x K':=by
 unfold qz at *;split at hk
 ·exact⟨hk.1,h _ _ hk.2⟩
 ·split at hk
  ·rename_i hb;(try simp only[hb]);exact⟨hk.1,h _ _ hk.2⟩
  ·exact hk.elim
 ·exact hk.elim
theorem P8 {ts:List TypeId} {s x:AV} {d:Nat} {σ:St} {K K':St->Prop} (h:∀σ',FrD (Dst (some d)) σ σ'->K σ'->K' σ') (hk:jR P n ts s x d σ K):jR P n ts s x d σ K':=by
 unfold jR at *;split at hk
 ·split at hk
  ·rename_i h1 h2;try simp only[h1,h2]
   split at hk
   ·exact hk.elim
   ·rename_i hc;rw[if_neg hc];refine U3 (fun m l hk=>?_) hk;split at hk
    ·exact⟨hk.1,wm h hk.2⟩
    ·exact⟨hk.1,wm h hk.2⟩
    ·split at hk
     ·rename_i hb;try simp only[hb]
      split at hk
      ·rename_i h3;rw[if_pos h3];exact⟨hk.1,wm (fun σ' h1 h2=>h σ' (.trans ⟨rfl,fun _ _=>rfl⟩ h1) h2) hk.2⟩
      ·exact hk.elim
     ·exact hk.elim
    ·exact hk.elim
  ·exact hk.elim
 ·exact hk.elim
theorem SY {t:TypeId} {σ:St} {m k:AV} {ok:Bool} {K K':AV->Prop} (h:∀v,K v->K' v) (hk:kX P t σ m k ok K):kX P t σ m k ok K':=by
 unfold kX at *;split at hk
 ·split at hk
  ·split at hk
   ·exact⟨hk.1,hk.2.1,(uU _).mono (fun v ⟨f,h1,h2⟩=>⟨f,h1,h _ h2⟩) hk.2.2⟩
   ·exact hk.elim
  ·exact hk.elim
 ·exact hk.elim
theorem IV {t:TypeId} {σ:St} {m k v:AV} {K K':St->Prop} (h:∀σ',FrD (fun _=>False) σ σ'->K σ'->K' σ') (hk:La P t σ m k v K):La P t σ m k v K':=by
 unfold La at *;split at hk
 ·split at hk
  ·split at hk
   ·obtain ⟨h1,h2,es',h3,h4⟩:=hk;exact⟨h1,h2,es',h3,h _ (.bx _ _ _) h4⟩
   ·exact hk.elim
  ·exact hk.elim
 ·exact hk.elim
theorem K2 {d:Nat} {t:TypeId} {σ:St} {K K':St->Prop} (h:∀σ',FrD (Dst (some d)) σ σ'->K σ'->K' σ') (hk:T2 n d t σ K):T2 n d t σ K':=by
 unfold T2 at *;split at hk
 ·rename_i hc;rw[if_pos hc];exact h _ ((FrD.put σ (some d) _).trans (.bx _ _ _)) hk
 ·exact hk.elim
theorem P5 (hI:kF S.inl) {o:Oper} {σ:St} {K K':St->Prop} (h:∀σ',FrD (Dst o.dst) σ σ'->K σ'->K' σ') (hk:aop P S n o σ K):aop P S n o σ K':=by
 have hp:∀v,K (σ.put o.dst v)->K' (σ.put o.dst v):=fun v=>h _ (.put σ o.dst v)
 unfold aop at *;split at hk
 ·split at hk
  ·rename_i hd _;rw[hd] at h;exact wm h hk
  ·exact hk.elim
 ·split at hk
  ·rename_i hd;split at hk
   ·rename_i hc;(try simp only);rw[if_pos hc];rw[hd] at h;exact wm h hk
   ·exact hk.elim
  ·exact hk.elim
 ·split at hk
  ·split at hk
   ·split at hk
    ·rename_i hc;try simp only
     rw[if_pos hc];split at hk
     ·split at hk
      ·rename_i hc2;rw[if_pos hc2];split at hk
       ·rename_i d hd;have hd:o.dst=some d:=by
         unfold OS at hd;split at hd
         ·rename_i d' hd';split at hd<;>simp_all
         ·cases hd
        rw[hd] at h;exact wm h hk
       ·exact hp _ hk
      ·exact hk.elim
     ·exact hk.elim
    ·exact hk.elim
   ·exact hk.elim
  ·exact hk.elim
 ·split at hk
  ·rename_i hd _;rw[hd] at h;exact K2 h hk
  ·exact hk.elim
 ·exact SY (fun v hk=>hp v hk) hk
 ·exact IV (fun σ' h1 h2=>h _ ((h1.weak fun _=>False.elim).trans (.put σ' o.dst _)) h2) hk
 ·exact Ux (fun v hk=>hp v hk) hk
 ·exact Ln (fun σ' h1 h2=>h _ ((h1.weak fun _=>False.elim).trans (.put σ' o.dst _)) h2) hk
 ·exact uA.mono (fun v hk=>hp v hk) hk
 ·exact Ur.mono (fun v hk=>hp v hk) hk
 ·exact PD (fun v hk=>hp v hk) hk
 ·split at hk
  ·exact hp _ hk
  ·split at hk
   ·exact hp _ hk
   ·exact hk.elim
 ·split at hk
  ·rename_i hd;split at hk
   ·split at hk
    ·rename_i hc;try simp only
     rw[if_pos hc];rw[hd] at h;exact⟨hk.1,wm h hk.2⟩
    ·exact hk.elim
   ·exact hk.elim
  ·exact hk.elim
 ·exact uj.mono (fun v hk=>hp v hk) hk
 ·exact uj.mono (fun v hk=>hp v hk) hk
 ·exact uj.mono (fun v hk=>hp v hk) hk
 ·exact uj.mono (fun v hk=>hp v hk) hk
 ·split at hk
  ·exact fun b hb=>hp _ (hk b hb)
  ·split at hk
   ·exact hp _ hk
   ·exact hk.elim
 ·split at hk
  ·split at hk
   ·rename_i hc;rw[if_pos hc];exact L9 h hk
   ·rename_i hc;rw[if_neg hc];exact W0 hI h hk
  ·split at hk
   ·exact W0 hI h hk
   ·exact hk.elim
  ·split at hk
   ·split at hk
    ·rename_i hm;(try simp only[hm]);exact W0 hI h hk
    ·exact hk.elim
   ·exact hk.elim
  ·split at hk
   ·rename_i hs hd;rw[hd] at h;(try simp only[hs]);exact P8 h hk
   ·exact hk.elim
  ·split at hk
   ·exact hp _ hk
   ·exact hk.elim
 ·split at hk
  ·exact hp _ hk
  ·exact hk.elim
theorem Y1 {b:Bool} {A A' B B':Prop} (ha:A->A') (hb:B->B') (h:br b A B):br b A' B':=⟨fun x=>ha (h.1 x),fun x=>hb (h.2 x)⟩
def Ys (l:List (Option Nat)) (t:Nat):Prop:=some t∈l
theorem J3 (hI:kF S.inl) {dsts:List (Option Nat)}:∀(ops:List Oper) {σ:St} {K K':St->Prop},(∀o∈ops,o.dst∈dsts)->(∀σ',FrD (Ys dsts) σ σ'->K σ'->K' σ')->w8 P S n dsts ops σ K->w8 P S n dsts ops σ K':=by
 intro ops;induction ops with
 |nil=>intro σ K K' _ h hk;exact h _ (.refl ..) hk
 |cons o r ih =>
  intro σ K K' hd h hk;have hr:∀o∈r,o.dst∈dsts:=fun x hx=>hd x (List.mem_cons_of_mem _ hx)
  have hdo:∀t,Dst o.dst t->Ys dsts t:=fun t ht=>by have:=hd o (by simp);rw[show o.dst=some t from ht] at this;exact this
  have step:∀σ1,FrD (Ys dsts) σ σ1->w8 P S n dsts r σ1 K->w8 P S n dsts r σ1 K':=fun σ1 h1 hk=>ih hr (fun σ' h2 hk=>h σ' (h1.trans h2) hk) hk
  have stepO:∀σ1,FrD (Ys dsts) σ σ1->(aop P S n o σ1 fun σ=>w8 P S n dsts r σ K)->(aop P S n o σ1 fun σ=>w8 P S n dsts r σ K'):=fun σ1 h1 hk=>P5 hI (fun σ' h2 hk=>step σ' (h1.trans (h2.weak hdo)) hk) hk
  have hput:∀σ1 v,FrD (Ys dsts) σ σ1->FrD (Ys dsts) σ (σ1.put o.dst v):=fun σ1 v h1=>h1.trans ((FrD.put σ1 o.dst v).weak hdo)
  unfold w8 at hk ⊢;split at hk
  ·exact stepO _ (.refl ..) hk
  ·rename_i j want hg;split at hk
   ·rename_i d hj;have hgd:∀v,FrD (Ys dsts) σ (σ.put (some d) v):=fun v=>(FrD.put σ (some d) v).weak (fun t ht=>by cases ht;exact List.mem_of_getElem? hj)
    split at hk
    ·split at hk
     ·rename_i hw;rw[if_pos hw];exact stepO _ (.refl ..) hk
     ·rename_i hw;rw[if_neg hw];exact step _ (hput _ _ (.refl ..)) hk
    ·split at hk
     ·rename_i hw;rw[if_pos hw];exact step _ (hput _ _ (.refl ..)) hk
     ·rename_i hw;rw[if_neg hw];exact stepO _ (.refl ..) hk
    ·split at hk
     ·rename_i hw;rw[if_pos hw];exact Y1 (stepO _ (hgd _)) (step _ (hput _ _ (hgd _))) hk
     ·rename_i hw;rw[if_neg hw];exact Y1 (step _ (hput _ _ (hgd _))) (stepO _ (hgd _)) hk
    ·exact step _ (hput _ _ (.refl ..)) hk
    ·exact hk.elim
   ·exact hk.elim
theorem IJ {o:Oper} {M:v8} {σ:St} {K K':v8->St->Prop} (h:∀M σ',FrD (Dst o.dst) σ σ'->K M σ'->K' M σ') (hk:MV P o M σ K):MV P o M σ K':=by
 have hp:∀M v,K M (σ.put o.dst v)->K' M (σ.put o.dst v):=fun M v=>h M _ (.put σ o.dst v)
 have hpop:Wl P o M σ K->Wl P o M σ K':=fun hk=>by
  unfold Wl at *;split at hk
  ·rename_i hc;rw[if_pos hc];split at hk
   ·exact hp _ _ hk
   ·exact hk.elim
  ·exact hk.elim
 have hget:∀b,UG M o.dst b σ K->UG M o.dst b σ K':=fun b hk=>by
  unfold UG at *;split at hk
  ·exact hp _ _ hk
  ·exact hk.elim
 unfold MV at hk ⊢;split at hk
 ·split at hk
  ·rename_i hc;rw[if_pos hc];exact Ux (fun v hk=>hp _ _ hk) hk
  ·exact hk.elim
 ·split at hk
  ·split at hk
   ·rename_i hc;rw[if_pos hc];exact hp _ _ hk
   ·exact hk.elim
  ·exact hk.elim
 ·split at hk
  ·split at hk
   ·rename_i hc;rw[if_pos hc];exact Y1 (hget _) (hget _) hk
   ·exact hk.elim
  ·exact hk.elim
 ·split at hk
  ·rename_i d hd hop;rw[hd] at h;split at hk
   ·rename_i hc;rw[if_pos hc];split at hk
    ·rename_i hc2;rw[if_pos hc2];exact h _ _ (.put ..) hk
    ·exact hk.elim
   ·rename_i hc;rw[if_neg hc];exact hpop hk
  ·exact hpop hk
 ·exact hpop hk
theorem LV (hI:kF S.inl) {dsts:List (Option Nat)}:∀(ops:List Oper) {M:Option v8} {σ:St} {K K':St->Prop},(∀o∈ops,o.dst∈dsts)->(∀σ',FrD (Ys dsts) σ σ'->K σ'->K' σ')->uf P S n ops M σ K->uf P S n ops M σ K':=by
 intro ops;induction ops with
 |nil=>intro M σ K K' _ h hk;exact h _ (.refl ..) hk
 |cons o r ih =>
  intro M σ K K' hd h hk;have hr:∀o∈r,o.dst∈dsts:=fun x hx=>hd x (List.mem_cons_of_mem _ hx)
  have hdo:∀t,Dst o.dst t->Ys dsts t:=fun t ht=>by have:=hd o (by simp);rw[show o.dst=some t from ht] at this;exact this
  have step:∀M σ1,FrD (Ys dsts) σ σ1->uf P S n r M σ1 K->uf P S n r M σ1 K':=fun M σ1 h1 hk=>ih hr (fun σ' h2 hk=>h σ' (h1.trans h2) hk) hk
  unfold uf at hk ⊢;split at hk
  ·exact hk.elim
  ·rename_i hg;rw[if_neg hg];split at hk
   ·split at hk
    ·rename_i d hop hd2;split at hk
     ·rename_i hc;rw[if_pos hc];exact step _ _ ((FrD.put σ (some d) _).weak fun t ht=>hdo t (by rw[hd2];exact ht)) hk
     ·exact hk.elim
    ·exact hk.elim
    ·exact P5 hI (fun σ' h2 hk=>step none σ' (h2.weak hdo) hk) hk
   ·exact IJ (fun M σ' h2 hk=>step _ σ' (h2.weak hdo) hk) hk
theorem JE {g:Bool} {d:Option Nat} {σ:St} {K K':St->Prop} (h:∀σ',FrD (Dst d) σ σ'->K σ'->K' σ') (hk:split g d σ K):split g d σ K':=by
 unfold split at *;split at hk
 ·split at hk
  ·rename_i hb;(try simp only);exact Y1 (h _ (.put ..)) (h _ (.put ..)) hk
  ·(try simp only);exact h _ (.refl ..) hk
 ·exact h _ (.refl ..) hk
theorem KG (hI:kF S.inl) {dsts:List (Option Nat)} {g:Bool} {o:Oper} {σ:St} {K K':St->Prop} (h:∀σ',FrD (Dst o.dst) σ σ'->K σ'->K' σ') (hk:gop P S n dsts g o σ K):gop P S n dsts g o σ K':=by
 have hs:(aop P S n o σ fun σ=>split g o.dst σ K)->(aop P S n o σ fun σ=>split g o.dst σ K'):=P5 hI fun σ1 h1 hk=>JE (fun σ2 h2 hk=>h _ (h1.trans h2) hk) hk
 have hp:=h _ (.put σ o.dst (.tup []));unfold gop at *;split at hk
 ·exact hs hk
 ·split at hk
  ·split at hk
   ·split at hk
    ·rename_i hw;rw[if_pos hw];exact hs hk
    ·rename_i hw;rw[if_neg hw];exact hp hk
   ·split at hk
    ·rename_i hw;rw[if_pos hw];exact hp hk
    ·rename_i hw;rw[if_neg hw];exact hs hk
   ·exact hp hk
   ·exact hk.elim
  ·exact hk.elim
theorem NJ (hI:kF S.inl) {ops:Array Oper}:∀(l:List Nat) {past:List Fp} {σ:St} {K K':St->Prop},(∀σ',FrD (Ys (qi ops.toList)) σ σ'->K σ'->K' σ')->Td P S n ops l past σ K->Td P S n ops l past σ K':=by
 intro l;induction l with
 |nil=>intro past σ K K' h hk;exact h _ (.refl ..) hk
 |cons i r ih =>
  intro past σ K K' h hk;unfold Td at hk ⊢;cases ho:ops[i]? with
  |none=>rw[ho] at hk;exact hk.elim
  |some o =>
   rw[ho] at hk;simp only at hk ⊢;have hdo:∀t,Dst o.dst t->Ys (qi ops.toList) t:=fun t ht=>by
    refine List.mem_map.2 ⟨o,?_,ht⟩;have:=List.mem_of_getElem? (by rw[<- Array.getElem?_toList] at ho;exact ho);exact this
   split at hk
   ·exact hk.elim
   ·split at hk
    ·rename_i hc;rw[if_pos hc];refine KG hI (fun σ' h1 hk=>?_) hk;simp only[jZ] at hk ⊢;split at hk
     ·rename_i hc2;rw[if_pos hc2];exact ih (fun σ'' h2 hk=>h _ ((h1.weak hdo).trans h2) hk) hk
     ·exact hk.elim
    ·exact hk.elim
theorem I8 (hI:kF S.inl) {ops:Array Oper}:∀(l:List Nat) {σ:St} {K K':St->Prop},(∀σ',FrD (Ys (qi ops.toList)) σ σ'->K σ'->K' σ')->O3 P S n ops l K σ->O3 P S n ops l K' σ:=by
 intro l;induction l with
 |nil=>intro σ K K' h hk;exact h _ (.refl ..) hk
 |cons x r ih =>
  intro σ K K' h hk;unfold O3 at hk ⊢;split at hk
  ·rename_i o ho;exact KG hI (fun σ2 h2 hk=>ih (fun σ3 h3 hk=>h σ3 ((h2.weak fun t ht=>List.mem_map.2 ⟨o,by simpa using Array.mem_of_getElem? ho,ht⟩).trans h3) hk) hk) hk
  ·exact hk.elim
theorem Kl (hI:kF S.inl) {ops:Array Oper} {ord:List Nat} {σ:St} {K K':St->Prop} (h:∀σ',FrD (Ys (qi ops.toList)) σ σ'->K σ'->K' σ') (hk:TG P S n ops ord σ K):TG P S n ops ord σ K':=by
 unfold TG at hk ⊢;simp only[jZ] at hk ⊢;split at hk
 ·rename_i hc;rw[if_pos hc];exact NJ hI _ h hk
 ·rename_i hc;rw[if_neg hc];split at hk
  ·rename_i hf;rw[if_pos hf];exact NJ hI _ (fun σ' hf hk=>I8 hI _ (fun σ2 h2 hk=>h σ2 (hf.trans h2) hk) hk) hk
  ·exact hk.elim
end
theorem jA {α:Type}:∀ {l:List (Nat × α)} {a:Nat} {b:α},l.lookup a=some b->(a,b)∈l:=by
 intro l;induction l with
 |nil=>intro a b h;simp at h
 |cons x r ih =>
  intro a b h;obtain ⟨k,v⟩:=x;simp only[List.lookup_cons] at h;split at h
  ·rename_i hk;simp only[beq_iff_eq] at hk;cases h;subst hk;simp
  ·exact List.mem_cons_of_mem _ (ih h)
theorem uF {α:Type}:∀ {l:List (Nat × α)} {a:Nat},l.lookup a=none->∀q∈l,q.1≠a:=by
 intro l;induction l with
 |nil=>intro a h q hq;simp at hq
 |cons x r ih =>
  intro a h q hq;obtain ⟨k,v⟩:=x;simp only[List.lookup_cons] at h;split at h
  ·cases h
  ·rename_i hk;simp only[beq_eq_false_iff_ne,ne_eq] at hk;rcases List.mem_cons.1 hq with rfl | hq
   ·exact fun h=>hk h.symm
   ·exact ih h q hq
theorem T7 {α:Type}:∀ {l:List (Nat × α)} {a:Nat} {b c:α},(l.map (·.1)).Nodup->(a,b)∈l->(a,c)∈l->b=c:=by
 intro l;induction l with
 |nil=>intro a b c _ h;simp at h
 |cons x r ih =>
  intro a b c hn hb hc;simp only[List.map_cons,List.nodup_cons,List.mem_map,not_exists,not_and] at hn;rcases List.mem_cons.1 hb with hb | hb
  ·rcases List.mem_cons.1 hc with hc | hc
   ·rw[<- hb] at hc;cases hc;rfl
   ·exact absurd (by rw[<- hb]) (hn.1 _ hc)
  ·rcases List.mem_cons.1 hc with hc | hc
   ·exact absurd (by rw[<- hc]) (hn.1 _ hb)
   ·exact ih hn.2 hb hc
theorem uu:∀(l m:List AV),qZ l m=true->l.length=m.length:=by
 intro l;induction l with
 |nil=>intro m h;cases m with
  |nil=>rfl
  |cons _ _=>simp[qZ] at h
 |cons a r ih=>intro m h;cases m with
  |nil=>simp[qZ] at h
  |cons b s=>simp only[qZ,Bool.and_eq_true] at h;simp[ih s h.2]
mutual
theorem Xm {h:Nat->Option Nat} (v:AV) (ht:v.tree=true):v.zj h=v:=by
 cases v with
 |ref b off=>simp[AV.tree] at ht
 |aslc b off len esz ag=>simp[AV.tree] at ht
 |map b=>simp[AV.tree] at ht
 |fn f a b =>
  simp only[AV.tree,Bool.and_eq_true] at ht;simp only[AV.zj];rw[wX a ht.1,wX b ht.2]
 |iface t v=>simp only[AV.zj];rw[Xm v (by simpa[AV.tree] using ht)]
 |eptr cs off=>simp only[AV.zj];rw[wX cs (by simpa[AV.tree] using ht)]
 |agg cs=>simp only[AV.zj];rw[wX cs (by simpa[AV.tree] using ht)]
 |tup cs=>simp only[AV.zj];rw[wX cs (by simpa[AV.tree] using ht)]
 |_=>rfl
theorem wX {h:Nat->Option Nat} (l:List AV) (ht:AV.zi l=true):AV.zh h l=l:=by
 cases l with
 |nil=>rfl
 |cons x r =>
  simp only[AV.zi,Bool.and_eq_true] at ht;simp only[AV.zh];rw[Xm x ht.1,wX r ht.2]
end
mutual
theorem S8 {h:Nat->Option Nat} (v:AV) (ht:∀b∈v.refs,h b=some b):v.zj h=v:=by
 cases v with
 |ref b off=>simp only[AV.zj];rw[ht b (by simp[AV.refs])]
 |aslc b off len esz ag=>simp only[AV.zj];rw[ht b (by simp[AV.refs])]
 |map b=>simp only[AV.zj];rw[ht b (by simp[AV.refs])]
 |fn f a b=>simp only[AV.zj];rw[vn a fun b hb=>ht b (by simp[AV.refs,hb]),vn b fun b hb=>ht b (by simp[AV.refs,hb])]
 |iface t v=>simp only[AV.zj];rw[S8 v fun b hb=>ht b (by simpa[AV.refs] using hb)]
 |eptr cs off=>simp only[AV.zj];rw[vn cs fun b hb=>ht b (by simpa[AV.refs] using hb)]
 |agg cs=>simp only[AV.zj];rw[vn cs fun b hb=>ht b (by simpa[AV.refs] using hb)]
 |tup cs=>simp only[AV.zj];rw[vn cs fun b hb=>ht b (by simpa[AV.refs] using hb)]
 |_=>rfl
theorem vn {h:Nat->Option Nat} (l:List AV) (ht:∀b∈AV.zd l,h b=some b):AV.zh h l=l:=by
 cases l with
 |nil=>rfl
 |cons x r=>simp only[AV.zh];rw[S8 x fun b hb=>ht b (by simp[AV.zd,hb]),vn r fun b hb=>ht b (by simp[AV.zd,hb])]
end
theorem KB {h:Nat->Option Nat} {b:Nat} (hb:self h b=true):h b=some b:=by
 unfold self at hb;cases hh:h b with
 |none=>simp[hh] at hb
 |some i=>simp only[hh,beq_iff_eq] at hb;rw[hb]
theorem TH {h:Nat->Option Nat} {v:AV} (hv:v.fixed h=true):v.zj h=v :=
 S8 v fun b hb=>KB (List.all_eq_true.1 hv b hb)
mutual
theorem Tt (v:AV) {K K':AV->Prop} (h:∀x,K x->K' x) (hk:LU v K):LU v K':=by
 cases v with
 |int k n=>exact fun n=>h _ (hk n)
 |bool b=>exact fun n=>h _ (hk n)
 |str s=>exact fun n=>h _ (hk n)
 |slc m es=>exact fun n=>h _ (hk n)
 |lit k n=>exact h _ hk
 |tup vs=>exact fun n=>h _ (hk n)
 |agg cs=>exact jY cs (fun _ hx=>h _ hx) hk
 |eptr cs o=>exact jY cs (fun _ hx=>h _ hx) hk
 |iface t v=>exact Tt v (fun _ hx=>h _ hx) hk
 |undef=>exact fun v ht=>h _ (hk v ht)
 |_=>trivial
theorem jY (l:List AV) {K K':List AV->Prop} (h:∀x,K x->K' x) (hk:YQ l K):YQ l K':=by
 cases l with
 |nil=>exact h _ hk
 |cons x r=>exact Tt x (fun v hv=>jY r (fun l hl=>h _ hl) hv) hk
end
mutual
theorem Qn (v x:AV) {K:AV->Prop} (hf:uv v x=true) (hk:LU v K):K x:=by
 cases v with
 |int k n =>
  cases x<;>simp only[uv,decide_eq_true_eq,Bool.false_eq_true] at hf;subst hf;exact hk _
 |lit k n =>
  cases x<;>simp only[uv,decide_eq_true_eq,Bool.false_eq_true] at hf;obtain ⟨rfl,rfl⟩:=hf;exact hk
 |bool b=>cases x<;>simp only[uv,Bool.false_eq_true] at hf;exact hk _
 |str s=>cases x<;>simp only[uv,Bool.false_eq_true] at hf;exact hk _
 |slc m es =>
  cases x with
  |slc m' es' =>
   have:m'=3:=by
    unfold uv at hf;split at hf<;>simp_all
   subst this;exact hk _
  |_=>simp[uv] at hf
 |tup vs=>cases x<;>simp only[uv,Bool.false_eq_true] at hf;exact hk _
 |agg cs =>
  cases x<;>simp only[uv,Bool.false_eq_true] at hf;exact kY cs _ hf hk
 |eptr cs o =>
  cases x<;>simp only[uv,Bool.false_eq_true,Bool.and_eq_true,decide_eq_true_eq] at hf;obtain ⟨rfl,hf⟩:=hf;exact kY (K:=fun l=>K (.eptr l _)) cs _ hf hk
 |iface t v =>
  cases x<;>simp only[uv,Bool.false_eq_true,Bool.and_eq_true,decide_eq_true_eq] at hf;obtain ⟨rfl,hf⟩:=hf;exact Qn (K:=fun y=>K (.iface _ y)) v _ hf hk
 |undef=>exact hk x (by simpa[uv] using hf)
 |_=>simp[uv] at hf
theorem kY (l xs:List AV) {K:List AV->Prop} (hf:qZ l xs=true) (hk:YQ l K):K xs:=by
 cases l with
 |nil =>
  cases xs with
  |nil=>exact hk
  |cons _ _=>simp[qZ] at hf
 |cons x r =>
  cases xs with
  |nil=>simp[qZ] at hf
  |cons y s =>
   simp only[qZ,Bool.and_eq_true] at hf;exact kY r s hf.2 (Qn x y hf.1 hk)
end
theorem Md:∀(m:Nat) {K K':List (List AV)->Prop},(∀x,K x->K' x)->LR m K->LR m K':=by
 intro m;induction m with
 |zero=>intro K K' h hk;exact h _ hk
 |succ m ih=>intro K K' h hk es;exact ih (fun l hl=>h _ hl) (hk es)
theorem LS:∀(m:Nat) {K:List (List AV)->Prop} (ls:List (List AV)),ls.length=m->LR m K->K ls:=by
 intro m;induction m with
 |zero=>intro K ls hl hk;have:ls=[]:=List.length_eq_zero_iff.1 hl;subst this;exact hk
 |succ m ih =>
  intro K ls hl hk;cases ls with
  |nil=>simp at hl
  |cons x r=>exact ih r (by simpa using hl) (hk x)
theorem SQ {σ:St}:∀ {l:List (Nat × AV)} {gs:List AV},WD σ l=some gs->qZ (l.map (·.2)) gs=true/\∀q∈(l.map (·.1)).zip gs,q.2=(σ.sl.getD q.1 .undef).norm/\(σ.sl.getD q.1 .undef).tree=true:=by
 intro l;induction l with
 |nil=>intro gs h;cases h;exact⟨rfl,by simp⟩
 |cons x r ih =>
  obtain ⟨t,sk⟩:=x;intro gs h;simp only[WD] at h;split at h
  ·rename_i hc;simp only[Bool.and_eq_true] at hc;obtain ⟨l,hl,rfl⟩:=Option.map_eq_some_iff.1 h;obtain ⟨h1,h2⟩:=ih hl;refine⟨by simp only[List.map_cons,qZ,hc.2,h1,Bool.and_self],fun q hq=>?_⟩;simp only[List.map_cons,List.zip_cons_cons,List.mem_cons] at hq;rcases hq with rfl | hq
   ·exact⟨rfl,hc.1⟩
   ·exact h2 q hq
  ·cases h
theorem U9 {σ0 σ:St}:∀ {l:List (Nat × AV)} {bs:List AV},YY σ0 σ l=some bs->qZ (l.map (·.2)) bs=true /\
  ∀q∈l.zip bs,∃x y,σ0.bx.getD q.1.1 none=some x/\σ.bx.getD q.1.1 none=some y/\x.arr=y.arr/\(x.arr=true\/AV.zi y.cs=true)/\q.2=.agg (AV.zb y.cs):=by
 intro l;induction l with
 |nil=>intro bs h;cases h;exact⟨rfl,by simp⟩
 |cons x r ih =>
  obtain ⟨b,sk⟩:=x;intro bs h;simp only[YY] at h;split at h
  ·rename_i x y hx hy;split at h
   ·rename_i hc;simp only[Bool.and_eq_true,Bool.or_eq_true,beq_iff_eq] at hc;obtain ⟨l,hl,rfl⟩:=Option.map_eq_some_iff.1 h;obtain ⟨h1,h2⟩:=ih hl;refine⟨by simp only[List.map_cons,qZ,hc.2,h1,Bool.and_self],fun q hq=>?_⟩;simp only[List.zip_cons_cons,List.mem_cons] at hq;rcases hq with rfl | hq
    ·exact⟨x,y,hx,hy,hc.1.1,hc.1.2,rfl⟩
    ·exact h2 q hq
   ·cases h
  ·cases h
def Lw (P:Program) (σ:St) (q:Nat × TypeId) (es:List AV):Prop :=
 ((σ.sl.getD q.1 .undef=.slc 0 []\/σ.sl.getD q.1 .undef=.slc 2 [])/\es=[]) \/
 ∃b x,σ.sl.getD q.1 .undef=.aslc b 0 es.length (P.cellsOf q.2) (yf P q.2)/\σ.bx.getD b none=some x/\x.arr=true/\es.flatMap AV.cells=x.cs
theorem Sx {P:Program} {σ:St}:∀ {l:List (Nat × TypeId)} {C:List (List AV)->Prop},uO P σ l C->∃ls,C ls/\ls.length=l.length/\∀q∈l.zip ls,Lw P σ q.1 q.2:=by
 intro l;induction l with
 |nil=>intro C h;exact⟨[],h,rfl,by simp⟩
 |cons x r ih =>
  obtain ⟨t,e⟩:=x;intro C h;have fin:∀es,Lw P σ (t,e) es->uO P σ r (fun l=>C (es::l))->∃ls,C ls/\ls.length=r.length+1/\∀q∈((t,e)::r).zip ls,Lw P σ q.1 q.2:=by
   intro es h1 h2;obtain ⟨ls,h3,h4,h5⟩:=ih h2;refine⟨es::ls,h3,by simp[h4],fun q hq=>?_⟩;simp only[List.zip_cons_cons,List.mem_cons] at hq;rcases hq with rfl | hq
   ·exact h1
   ·exact h5 q hq
  simp only[uO] at h;split at h
  ·rename_i hh;exact fin [] (.inl ⟨.inl hh,rfl⟩) h
  ·rename_i hh;exact fin [] (.inl ⟨.inr hh,rfl⟩) h
  ·rename_i b off len esz ag hh;split at h
   ·rename_i x hx;split at h
    ·rename_i hc;simp only[Bool.and_eq_true,beq_iff_eq] at hc;obtain ⟨⟨⟨ha,rfl⟩,rfl⟩,rfl⟩:=hc;obtain ⟨es,⟨h1,h2⟩,h3⟩:=h;subst h1;exact fin es (.inr ⟨b,x,hh,hx,ha,h2⟩) h3
    ·exact h.elim
   ·exact h.elim
  ·exact h.elim
theorem Pf {entry:Bool} {h:Nat->Option Nat} {skip:Nat->Bool} {σ:St} {C:Prop}:∀ {l:List (Option Bx)} {b0:Nat},uC entry h skip σ b0 l C->C/\∀(i:Nat) (x:Bx),l[i]? = some (some x)->skip (b0+i)=false ->
  ∃y,σ.bx.getD (b0+i) none=some y/\y.arr=x.arr/\h (b0+i)=some (b0+i)/\(x.arr=true\/∀v∈x.cs,v.fixed h=true)/\(entry=false->y.cs=x.cs):=by
 intro l;induction l with
 |nil=>intro b0 hk;exact⟨hk,fun i x hi=>by simp at hi⟩
 |cons o r ih =>
  intro b0 hk;have tail:uC entry h skip σ (b0+1) r C->(∀x,o=some x->skip b0=false ->
    ∃y,σ.bx.getD b0 none=some y/\y.arr=x.arr/\h b0=some b0/\(x.arr=true\/∀v∈x.cs,v.fixed h=true)/\(entry=false->y.cs=x.cs))->C/\∀(i:Nat) (x:Bx),(o::r)[i]? = some (some x)->skip (b0+i)=false ->
    ∃y,σ.bx.getD (b0+i) none=some y/\y.arr=x.arr/\h (b0+i)=some (b0+i)/\(x.arr=true\/∀v∈x.cs,v.fixed h=true)/\(entry=false->y.cs=x.cs):=by
   intro h1 h2;obtain ⟨h3,h4⟩:=ih h1;refine⟨h3,fun i x hi hs=>?_⟩;cases i with
   |zero=>exact h2 x (by simpa using hi) hs
   |succ i =>
    have:b0+(i+1)=b0+1+i:=by omega
    rw[this] at hs ⊢;exact h4 i x (by simpa using hi) hs
  cases o with
  |none=>exact tail hk (fun x hx=>by cases hx)
  |some x =>
   simp only[uC] at hk;split at hk
   ·rename_i hs;exact tail hk (fun y hy hs'=>by rw[hs] at hs';cases hs')
   ·split at hk
    ·rename_i y hy;by_cases hc:(y.arr == x.arr && self h b0 && (x.arr || x.cs.all (AV.fixed h)))=true
     ·rw[if_pos hc] at hk;simp only[Bool.and_eq_true,Bool.or_eq_true,beq_iff_eq] at hc;have hfx:x.arr=true\/∀v∈x.cs,v.fixed h=true:=by
       rcases hc.2 with hc | hc
       ·exact .inl hc
       ·exact .inr (List.all_eq_true.1 hc)
      split at hk
      ·rename_i he;exact tail hk (fun x' hx' _=>by cases hx';exact⟨y,hy,hc.1.1,KB hc.1.2,hfx,fun h=>by rw[he] at h;cases h⟩)
      ·exact tail hk.2 (fun x' hx' _=>by cases hx';exact⟨y,hy,hc.1.1,KB hc.1.2,hfx,fun _=>hk.1⟩)
     ·rw[if_neg hc] at hk;exact hk.elim
    ·exact hk.elim
theorem wA {α β γ:Type} {f:α->β->γ} {l:List α} {m:List β} {c:γ} (h:c∈List.zipWith f l m):∃q∈l.zip m,c=f q.1 q.2:=by
 induction l generalizing m with
 |nil=>simp at h
 |cons x r ih =>
  cases m with
  |nil=>simp at h
  |cons y s =>
   simp only[List.zipWith_cons_cons,List.mem_cons] at h;rcases h with rfl | h
   ·exact⟨(x,y),by simp,rfl⟩
   ·obtain ⟨q,h1,h2⟩:=ih h;exact⟨q,by simp[h1],h2⟩
theorem wk {α:Type} {f:Nat->α->α} {l:List α} {d:α} {t:Nat}:(UC l f).getD t d=if t<l.length then f t (l.getD t d) else d:=by
 simp only[List.getD,xe];by_cases h:t<l.length
 ·simp[h]
 ·simp[h]
theorem KY {cs:List AV} (h:cs.length≠1):ql cs=none:=by
 match cs with
 |[]=>rfl
 |[x]=>exact absurd rfl h
 |x::y::r=>rfl
theorem Pm {h:Nat->Option Nat} {c v:AV} (hr:Sb (c.zj h) v) (hm:kH c=none):kH v=none:=by
 rcases hr with rfl | rfl | rfl | ⟨_,b,esz,ag,rfl⟩
 ·rfl
 ·rw[XT];exact hm
 ·rw[UB,XT];exact hm
 ·rfl
def PZ (h:Nat->Option Nat) (n:Nat) (σ σ':St):Prop :=
 ((∀b i,h b=some i->i<n->b=i)/\True/\(∀b c i,h b=some i->h c=some i->b=c) /\
  (∀t,Sb ((σ.sl.getD t .undef).zj h) (σ'.sl.getD t .undef)) /\
  (∀b' x',σ'.bx.getD b' none=some x'->(∃b x,h b=some b'/\σ.bx.getD b none=some x/\x'.arr=x.arr/\x'.cs.length=x.cs.length/\ql x'.cs=ql x.cs /\
   ∀j,if x.arr then OX (x.cs.getD j .undef) (x'.cs.getD j .undef) else Sb ((x.cs.getD j .undef).zj h) (x'.cs.getD j .undef))\/(x'.cs=[]/\n<=b'/\∀b,h b≠some b'))) /\
 σ'.sl.length=σ.sl.length
theorem PZ.zY {h:Nat->Option Nat} {n:Nat} {σ σ':St} (hw:PZ h n σ σ'):xQ n σ σ':=⟨⟨h,hw.1⟩,hw.2⟩
theorem Yp {bx:List (Option Bx)} {b off:Nat} {v:AV} {c:Nat}:(Xn bx b off v).getD c none=if c=b then (bx.getD b none).map (fun x=>{ x with cs:=x.cs.set off v }) else bx.getD c none:=by
 unfold Xn;cases hb:bx.getD b none with
 |none =>
  simp only[Option.map_none];split
  ·rename_i hc;rw[hc,hb]
  ·rfl
 |some x =>
  have hlt:b<bx.length:=by
   rcases Nat.lt_or_ge b bx.length with h | h
   ·exact h
   ·simp[List.getD,List.getElem?_eq_none h] at hb
  simp only[Option.map_some,List.getD];split
  ·rename_i hc;rw[hc];simp[hlt]
  ·rename_i hc;rw[List.getElem?_set_ne (Ne.symm hc)]
theorem Kn {h:Nat->Option Nat} {n:Nat} {q:Nat × Nat × TypeId} {σ τ:St} {x:Bx} (hx:σ.bx.getD q.1 none=some x) (ha:x.arr=false) (hm:ql x.cs=none) (ho:q.2.1<x.cs.length) (hq:h q.1=some q.1) (hw:PZ h n (uE q σ) τ):PZ h n σ (Yh q τ):=by
 obtain ⟨⟨w1,w2,w3,w4,w5⟩,w6⟩:=hw;have hl:τ.sl.length=σ.sl.length+1:=by rw[w6];simp[uE]
 have hdl:(Yh q τ).sl.length=σ.sl.length:=by simp[Yh,hl]
 have hsl:∀t,t<σ.sl.length->(Yh q τ).sl.getD t .undef=τ.sl.getD t .undef:=by
  intro t ht;simp only[Yh,List.getD,List.getElem?_take];rw[if_pos (by omega)]
 have hlift:∀t,(uE q σ).sl.getD t .undef=if t<σ.sl.length then σ.sl.getD t .undef else if t=σ.sl.length then XH σ q.1 q.2.1 else .undef:=by
  intro t;simp only[uE,List.getD,List.getElem?_append];split
  ·rfl
  ·rename_i h1;split
   ·rename_i h2;rw[h2];simp
   ·rename_i h2;rw[List.getElem?_eq_none (by simp;omega)];rfl
 refine⟨⟨w1,w2,w3,fun t=>?_,fun b' x' hx'=>?_⟩,hdl⟩
 ·rcases Nat.lt_or_ge t σ.sl.length with ht | ht
  ·have:=w4 t;rw[hlift,if_pos ht] at this;rw[hsl t ht];exact this
  ·have e:(Yh q τ).sl.getD t .undef=.undef:=yH (by rw[hdl];exact ht);rw[e];exact .inl rfl
 ·simp only[Yh] at hx';rw[Yp] at hx';have hlb:∀b,(uE q σ).bx.getD b none=if b=q.1 then (σ.bx.getD q.1 none).map (fun x=>{ x with cs:=x.cs.set q.2.1 .undef }) else σ.bx.getD b none:=fun b=>Yp
  split at hx'
  ·rename_i hb;subst hb;obtain ⟨y,hy,rfl⟩:=Option.map_eq_some_iff.1 hx';rcases w5 q.1 y hy with ⟨b,z,g1,g2,g3,g4,_,g5⟩ | ⟨_,_,g⟩
   ·have hbq:b=q.1:=w3 b q.1 q.1 g1 hq;subst hbq;rw[hlb,if_pos rfl,hx] at g2;cases g2;have hmv:ql (y.cs.set q.2.1 (τ.sl.getD (τ.sl.length-1) .undef))=ql x.cs:=by
     rw[hm];simp only[List.length_set] at g4;by_cases hl1:x.cs.length=1
     ·have h0:q.2.1=0:=by omega
      have hr:=w4 (τ.sl.length-1);rw[hlift,if_neg (by omega),if_pos (by omega)] at hr;have e2:XH σ q.1 q.2.1=x.cs.getD q.2.1 .undef:=by unfold XH;rw[hx]
      rw[e2,h0] at hr;match hxc:x.cs,hl1 with
      |[c],_ =>
       rw[hxc] at hr hm;match hyc:y.cs,(show y.cs.length=1 by rw[g4,hxc];rfl) with
       |[d],_ =>
        rw[h0];show kH _=none;exact Pm hr hm
     ·exact KY (by rw[List.length_set,g4];exact hl1)
    refine .inl ⟨q.1,x,hq,hx,g3,by simpa using g4,hmv,fun j=>?_⟩;simp only[ha,Bool.false_eq_true,if_false] at g5 ⊢;simp only[List.length_set] at g4;by_cases hj:j=q.2.1
    ·subst hj;have e1:(y.cs.set q.2.1 (τ.sl.getD (τ.sl.length-1) .undef)).getD q.2.1 .undef=τ.sl.getD (τ.sl.length-1) .undef:=by
      simp only[List.getD,List.getElem?_set_self (by omega:q.2.1<y.cs.length),Option.getD_some]
     rw[e1];have:=w4 (τ.sl.length-1);rw[hlift,if_neg (by omega),if_pos (by omega)] at this;have e2:XH σ q.1 q.2.1=x.cs.getD q.2.1 .undef:=by unfold XH;rw[hx]
     rw[e2] at this;exact this
    ·have e1:(y.cs.set q.2.1 (τ.sl.getD (τ.sl.length-1) .undef)).getD j .undef=y.cs.getD j .undef:=by
      simp only[List.getD,List.getElem?_set_ne (Ne.symm hj)]
     rw[e1];have:=g5 j;have e2:(x.cs.set q.2.1 .undef).getD j .undef=x.cs.getD j .undef:=by
      simp only[List.getD,List.getElem?_set_ne (Ne.symm hj)]
     rw[e2] at this;exact this
   ·exact absurd hq (g q.1)
  ·rename_i hb;rcases w5 b' x' hx' with ⟨b,z,g1,g2,g3,g4,g5⟩ | g
   ·have hbq:b≠q.1:=by rintro rfl;rw[hq] at g1;exact hb (Option.some.inj g1).symm
    rw[hlb,if_neg hbq] at g2;exact .inl ⟨b,z,g1,g2,g3,g4,g5⟩
   ·exact .inr g
theorem Kp {h:Nat->Option Nat} {n:Nat}:∀(cap:List (Nat × Nat × TypeId)) {σ τ:St},Ny h cap σ=true->PZ h n (jM cap σ) τ->PZ h n σ (wL cap τ):=by
 intro cap;induction cap with
 |nil=>intro σ τ _ hw;exact hw
 |cons q r ih =>
  intro σ τ hc hw;simp only[Ny,Bool.and_eq_true] at hc;obtain ⟨⟨h1,h2⟩,h3⟩:=hc;split at h1
  ·rename_i x hx;simp only[Bool.and_eq_true,Bool.not_eq_true',decide_eq_true_eq] at h1;exact Kn hx h1.1.1 (by simpa using h1.1.2) h1.2 (KB h2) (ih h3 hw)
  ·cases h1
theorem Uw:∀(cap:List (Nat × Nat × TypeId)) (σ:St),(jM cap σ).sl.length=σ.sl.length+cap.length/\∀t,t<σ.sl.length->(jM cap σ).sl.getD t .undef=σ.sl.getD t .undef:=by
 intro cap;induction cap with
 |nil=>intro σ;exact⟨rfl,fun _ _=>rfl⟩
 |cons q r ih =>
  intro σ;obtain ⟨h1,h2⟩:=ih (uE q σ);have hl:(uE q σ).sl.length=σ.sl.length+1:=by simp[uE]
  refine⟨by simp only[jM,h1,hl,List.length_cons];omega,fun t ht=>?_⟩;simp only[jM];rw[h2 t (by omega)];simp only[uE,List.getD,List.getElem?_append,if_pos ht]
theorem Ko:∀(cap:List (Nat × Nat × TypeId)) (τ:St),cap.length<=τ.sl.length->(wL cap τ).sl.length=τ.sl.length-cap.length/\∀t,t<τ.sl.length-cap.length->(wL cap τ).sl.getD t .undef=τ.sl.getD t .undef:=by
 intro cap;induction cap with
 |nil=>intro τ _;exact⟨rfl,fun _ _=>rfl⟩
 |cons q r ih =>
  intro τ hl;simp only[List.length_cons] at hl;obtain ⟨h1,h2⟩:=ih τ (by omega);refine⟨by simp only[wL,Yh,List.length_take,h1,List.length_cons];omega,fun t ht=>?_⟩;simp only[List.length_cons] at ht;have:=h2 t (by omega);simp only[wL,Yh,List.getD,List.getElem?_take];rw[if_pos (by omega)];exact this
section
variable {P:Program} {n:Nat} {keep D:List Nat} {p:Pat} {σ0 σ:St}
theorem PL {entry:Bool} {C:List AV->Prop} (hlen:σ.sl.length=σ0.sl.length) (hkept:∀t,t∈keep->t∉D->σ.sl.getD t .undef=σ0.sl.getD t .undef) (hen:entry=true->σ0=σ)
  (hk:Na P n keep D p entry σ0 σ C):∃gs ls bs,C (xz gs ls bs)/\qZ (p.gen.map (·.2)) gs=true/\ls.length=p.app.length/\qZ (p.bgen.map (·.2)) bs=true/\PZ (p.zM n σ) n σ (qP P n keep D p σ0 gs ls bs):=by
 unfold Na at hk;split at hk
 case isFalse=>exact hk.elim
 rename_i hok;obtain ⟨hk,hkb⟩:=Pf hk;split at hk
 case h_2=>exact hk.elim
 rename_i gs bs hgs hbs;obtain ⟨ls,hC,hll,hap⟩:=Sx hk;obtain ⟨hfg,hg⟩:=SQ hgs;obtain ⟨hfb,hb⟩:=U9 hbs;unfold KK at hok;simp only[Bool.and_eq_true,decide_eq_true_eq,List.all_eq_true] at hok;obtain ⟨⟨⟨hnd,hsd⟩,hbg⟩,hfx⟩:=hok;refine⟨gs,ls,bs,hC,hfg,hll,hfb,⟨⟨?_,trivial,?_,?_,?_⟩,?_⟩⟩
 ·intro b i hb hin;unfold Pat.zM MH at hb;split at hb
  ·rename_i j hj;cases hb;have hm:=jA hj;exfalso;obtain ⟨q,_,hq⟩:=List.mem_filterMap.1 hm;split at hq
   ·cases hq;omega
   ·cases hq
  ·split at hb
   ·cases hb
   ·cases hb;rfl
 ·intro b c i hb hc;have key:∀b i,p.zM n σ b=some i->((b,i)∈xR n p σ/\∃q∈p.app,i=n+q.1/\∃off len esz ag,σ.sl.getD q.1 .undef=.aslc b off len esz ag)\/(b=i/\∀q∈p.app,i≠n+q.1):=by
   intro b i hb;unfold Pat.zM MH at hb;split at hb
   ·rename_i j hj;cases hb;have hm:=jA hj;refine .inl ⟨hm,?_⟩;obtain ⟨q,hq1,hq⟩:=List.mem_filterMap.1 hm;refine⟨q,hq1,?_⟩;split at hq
    ·rename_i hh;cases hq;exact⟨rfl,_,_,_,_,hh⟩
    ·cases hq
   ·split at hb
    ·cases hb
    ·rename_i hn;cases hb;refine .inr ⟨rfl,fun q hq h=>hn ?_⟩;simp only[List.contains_iff_mem,List.mem_map];exact⟨q,hq,h.symm⟩
  rcases key b i hb with ⟨_,q,hq,rfl,_,_,_,_,h1⟩ | ⟨rfl,h1⟩
  ·rcases key c _ hc with ⟨_,q',hq',h2,_,_,_,_,h3⟩ | ⟨_,h3⟩
   ·have:q.1=q'.1:=by omega
    rw[this,h3] at h1;cases h1;rfl
   ·exact absurd rfl (h3 q hq)
  ·rcases key c _ hc with ⟨_,q',hq',h2,_,_,_,_,h3⟩ | ⟨h2,h3⟩
   ·exact absurd h2 (h1 q' hq')
   ·exact h2.symm
 ·intro t;simp only[qP];rw[wk];split
  case isFalse=>exact .inl rfl
  split
  case isFalse=>exact .inl rfl
  rename_i hkt;simp only[List.contains_iff_mem] at hkt;split
  ·rename_i v hv;rcases List.mem_append.1 (jA hv) with hv | hv
   ·obtain ⟨h1,h2⟩:=hg _ hv;simp only at h1 h2;rw[h1,Xm _ h2];exact .inr (.inr (.inl rfl))
   ·obtain ⟨q,hq,he⟩:=wA hv;simp only[Prod.mk.injEq] at he;obtain ⟨rfl,rfl⟩:=he;rcases hap q hq with ⟨h1,h2⟩ | ⟨b,x,h1,h2,h3,h4⟩
    ·rw[h2];refine .inr (.inr (.inr ⟨?_,_,_,_,rfl⟩));rcases h1 with h1 | h1<;>rw[h1]
     ·exact .inl rfl
     ·exact .inr rfl
    ·rw[h1];refine .inr (.inl ?_);have hin:(b,n+q.1.1)∈xR n p σ:=List.mem_filterMap.2 ⟨q.1,(List.of_mem_zip hq).1,by rw[h1]⟩;have:p.zM n σ b=some (n+q.1.1):=by
      unfold Pat.zM MH;cases hl:(xR n p σ).lookup b with
      |none=>exact absurd rfl (uF hl _ hin)
      |some j =>
       have hm:=jA hl;rw[T7 hsd hm hin]
     simp only[AV.zj,this]
  ·split
   ·exact .inl rfl
   ·rename_i hD;simp only[List.contains_iff_mem] at hD;have h1:=hkept t hkt hD;have h2:=hfx t hkt;simp only[Bool.or_eq_true,List.contains_iff_mem,hD,false_or] at h2;rw[<- h1] at h2;rw[TH h2,h1];exact .inr (.inl rfl)
 ·intro b' x' hx';simp only[qP] at hx';rw[wk] at hx';split at hx'
  case isFalse=>cases hx'
  rename_i hblt;split at hx'
  ·rename_i y hy;cases hx';rcases List.mem_append.1 (jA hy) with hv | hv
   ·obtain ⟨q,hq,he⟩:=wA hv;simp only[Prod.mk.injEq] at he;obtain ⟨rfl,rfl⟩:=he;rcases hap q hq with ⟨h1,h2⟩ | ⟨b,x,h1,h2,h3,h4⟩
    ·refine .inr ⟨by simp[h2],by omega,fun b hb=>?_⟩;unfold Pat.zM MH at hb;split at hb
     ·rename_i j hj;cases hb;obtain ⟨q',hq',he⟩:=List.mem_filterMap.1 (jA hj);split at he
      ·rename_i hh;simp only[Option.some.injEq,Prod.mk.injEq] at he;have:q'.1=q.1.1:=by omega
       rw[this] at hh;rcases h1 with h1 | h1<;>(rw[h1] at hh;cases hh)
      ·cases he
     ·split at hb
      ·cases hb
      ·rename_i hn;cases hb;exact hn (by simp only[List.contains_iff_mem,List.mem_map];exact⟨q.1,(List.of_mem_zip hq).1,rfl⟩)
    ·have hin:(b,n+q.1.1)∈xR n p σ:=List.mem_filterMap.2 ⟨q.1,(List.of_mem_zip hq).1,by rw[h1]⟩;have hhb:p.zM n σ b=some (n+q.1.1):=by
      unfold Pat.zM MH;cases hl:(xR n p σ).lookup b with
      |none=>exact absurd rfl (uF hl _ hin)
      |some j =>
       have hm:=jA hl;rw[T7 hsd hm hin]
     refine .inl ⟨b,x,hhb,h2,h3.symm,by rw[h4],by rw[h4],fun j=>?_⟩;rw[if_pos h3,h4];exact .inr (.inl rfl)
   ·obtain ⟨q,hq,he⟩:=wA hv;simp only[Prod.mk.injEq] at he;obtain ⟨rfl,rfl⟩:=he;obtain ⟨x,y,h1,h2,h3,h4,h5⟩:=hb q hq;rw[h1,h5];have hhb:=KB (hbg q.1 (List.of_mem_zip hq).1);refine .inl ⟨q.1.1,y,hhb,h2,h3,by simp[AV.cells,yu],by simp only[AV.cells];exact vk _,fun j=>?_⟩;simp only[AV.cells,yP];split
    ·exact .inr (.inr rfl)
    ·rename_i ha;have:AV.zi y.cs=true:=by
      rcases h4 with h4 | h4
      ·rw[h3] at h4;exact absurd h4 ha
      ·exact h4
     rw[Xm _ (qU this j)];exact .inr (.inr (.inl rfl))
  ·rename_i hnone;split at hx'
   ·cases hx'
   ·rename_i hns;have hskip:((p.bgen.map (·.1)).contains b' || (p.app.map fun q=>n+q.1).contains b' || (xR n p σ0).any (fun q=>q.1 == b'))=false:=by
     rw[Bool.or_eq_false_iff,Bool.or_eq_false_iff];have hno:=uF hnone;refine⟨⟨?_,?_⟩,by rw[<- Bool.not_eq_true];exact hns⟩
     ·rw[Bool.eq_false_iff];intro hc;simp only[List.contains_iff_mem,List.mem_map] at hc;obtain ⟨q,hq,rfl⟩:=hc;have hbl:p.bgen.length=bs.length:=by simpa using uu _ _ hfb
      obtain ⟨i,hi,hqi⟩:=List.getElem_of_mem hq;unfold KJ at hno;have:=hno _ (List.mem_append_right _ (List.getElem_mem (n:=i) (by simp only[List.length_zipWith];omega)));simp only[List.getElem_zipWith,hqi,ne_eq,not_true_eq_false] at this
     ·rw[Bool.eq_false_iff];intro hc;simp only[List.contains_iff_mem,List.mem_map] at hc;obtain ⟨q,hq,rfl⟩:=hc;obtain ⟨i,hi,hqi⟩:=List.getElem_of_mem hq;refine hno (n+q.1,⟨q.2,true,(ls[i]'(by omega)).flatMap AV.cells⟩) (List.mem_append_left _ ?_) rfl;rw[List.mem_iff_getElem];refine⟨i,by simp;omega,?_⟩;simp only[List.getElem_zipWith,hqi]
    have hl:σ0.bx[b']? = some (some x'):=by
     simp only[List.getD] at hx';rw[List.getElem?_eq_getElem hblt] at hx' ⊢;simpa using hx'
    obtain ⟨y,h1,h2,h3,h4,h5⟩:=hkb b' x' hl (by rw[Nat.zero_add];exact hskip);rw[Nat.zero_add] at h1 h3;have h5:y.cs=x'.cs:=by
     cases entry with
     |false=>exact h5 rfl
     |true =>
      rw[hen rfl,h1] at hx';cases hx';rfl
    refine .inl ⟨b',y,h3,h1,h2.symm,by rw[h5],by rw[h5],fun j=>?_⟩;rw[h5];split
    ·exact .inr (.inl rfl)
    ·rename_i ha;rcases h4 with h4 | h4
     ·rw[h2] at ha;exact absurd h4 ha
     ·rcases Nat.lt_or_ge j x'.cs.length with hj | hj
      ·have:=h4 (x'.cs.getD j .undef) (by simp only[List.getD,List.getElem?_eq_getElem hj,Option.getD_some];exact List.getElem_mem hj);rw[TH this];exact .inr (.inl rfl)
      ·rw[yH hj];exact .inl rfl
 ·simp only[qP,uG];exact hlen.symm
end
def CD (ctl:Ctl) (c:Code) (t:Nat):Prop:=t∈ctl.dsts c\/t∉ctl.keep
theorem Y6 {ctl:Ctl} {a b:Code} {t:Nat}:(t∈ctl.dsts a->t∈um a++um b++(ctl.fz.filter fun q=>decide (q.2<1000000000)).map (fun q=>q.2 % 1000000))/\(t∈ctl.dsts b->t∈um a++um b++(ctl.fz.filter fun q=>decide (q.2<1000000000)).map (fun q=>q.2 % 1000000)):=by
 simp only[Ctl.dsts,List.mem_append];exact⟨fun h=>h.elim (fun h=>.inl (.inl h)) .inr,fun h=>h.elim (fun h=>.inl (.inr h)) .inr⟩
theorem Ke (keep:List Nat) (σ:St):FrD (fun t=>t∉keep) σ (clean keep σ):=by
 refine⟨by simp[clean,uG],fun t ht=>?_⟩;simp only[clean];rw[wk];split
 ·rw[if_pos (by simpa using ht)]
 ·rename_i hl;rw[yH (by omega)]
section
variable {P:Program} {S:Specs} {n:Nat}
theorem MJ {keep D:List Nat} {p:Pat} {σ:St} {gs:List AV} {ls:List (List AV)} {bs:List AV} (hp:xH D p=true) :
  FrD (fun t=>t∈D\/t∉keep) σ (qP P n keep D p σ gs ls bs):=by
 refine⟨by simp[qP,uG],fun t ht=>?_⟩;simp only[not_or,Classical.not_not] at ht;simp only[qP];rw[wk];split
 case isFalse=>rename_i hl;rw[yH (by omega)]
 rw[if_pos (by simpa using ht.2)];split
 ·rename_i v hv;exfalso;unfold xH at hp;rw[List.all_eq_true] at hp;have:t∈p.gen.map (·.1)++p.app.map (·.1):=by
   rcases List.mem_append.1 (jA hv) with hv | hv
   ·exact List.mem_append_left _ (List.of_mem_zip hv).1
   ·obtain ⟨q,hq,he⟩:=wA hv;simp only[Prod.mk.injEq] at he;exact List.mem_append_right _ (List.mem_map.2 ⟨q.1,(List.of_mem_zip hq).1,he.1.symm⟩)
  have:=hp t this;simp only[List.contains_iff_mem] at this;exact ht.1 this
 ·rw[if_neg (by simpa using ht.1)]
theorem OA {keep D:List Nat} {p:Pat} {σ:St} {C C':List AV->St->Prop} (h:∀gs ls bs,C (xz gs ls bs) (qP P n keep D p σ gs ls bs)->C' (xz gs ls bs) (qP P n keep D p σ gs ls bs)) (hk:Q5 P n keep D p σ C):Q5 P n keep D p σ C' :=
 jY _ (fun _ hk=>Md _ (fun _ hk=>jY _ (fun _ hk=>h _ _ _ hk) hk) hk) hk
theorem MI {keep D:List Nat} {p:Pat} {σ:St} {C:List AV->St->Prop} {gs:List AV} {ls:List (List AV)} {bs:List AV} (h1:qZ (p.gen.map (·.2)) gs=true) (h2:ls.length=p.app.length) (h3:qZ (p.bgen.map (·.2)) bs=true)
  (hk:Q5 P n keep D p σ C):C (xz gs ls bs) (qP P n keep D p σ gs ls bs):=by
 unfold Q5 at hk;have h4:=kY _ _ h1 hk;have h5:=LS _ _ h2 h4;exact kY _ _ h3 h5
theorem UJ {nm:Bool} {esz:Nat} {ag:Bool} {len:Nat} {cs:List AV} {K K':List AV->Prop} (h:∀es,K es->K' es) (hk:UH nm esz ag len cs K):UH nm esz ag len cs K':=by
 unfold UH at hk ⊢;split at hk
 ·rename_i hn;rw[if_pos hn];obtain ⟨es,h1,h2⟩:=hk;exact⟨es,h1,h es h2⟩
 ·rename_i hn;rw[if_neg hn];exact h _ hk
theorem Um {nm:Bool} {t:Nat} {σ:St} {K K':St->Prop} (h:∀σ',FrD (fun i=>i=t) σ σ'->K σ'->K' σ') (hk:vE nm n t σ K):vE nm n t σ K':=by
 unfold vE at hk ⊢;split at hk
 ·rename_i hs
  (try simp only[hs])
  split at hk
  ·rename_i hb
   (try simp only[hb])
   split at hk
   ·rename_i hn;rw[if_pos hn];refine uN (fun hk=>UJ (fun es hk=>h _ ⟨by simp,fun i hi=>?_⟩ hk) hk) hk;simp only[List.getD,List.getElem?_set_ne (Ne.symm hi)]
   ·exact hk.elim
  ·exact hk.elim
 ·rename_i hs
  (try simp only[hs])
  split at hk
  ·rename_i hb
   (try simp only[hb])
   split at hk
   ·rename_i hn;rw[if_pos hn];refine h _ ⟨by simp,fun i hi=>?_⟩ hk;simp only[List.getD,List.getElem?_set_ne (Ne.symm hi)]
   ·exact hk.elim
  ·exact hk.elim
 ·exact h _ (.refl ..) hk
theorem Lk {k t:Nat} {σ:St} {K K':St->Prop} (h:∀σ',FrD (fun i=>i=t) σ σ'->K σ'->K' σ') (hk:UW k t σ K):UW k t σ K':=by
 unfold UW at hk ⊢;generalize σ.sl.getD t .undef=v at hk ⊢;cases v with
 |int kd j=>exact⟨hk.1,Ju hk.2 fun m hm=>h _ ⟨by simp,fun i hi=>by simp only[List.getD,List.getElem?_set_ne (Ne.symm hi)]⟩ hm⟩
 |_=>exact h _ (.refl ..) hk
theorem Un {nm:Bool} {off c:Nat} {σ:St} {K K':St->Prop} (h:∀σ',FrD (fun _=>False) σ σ'->K σ'->K' σ') (hk:vF nm n off c σ K):vF nm n off c σ K':=by
 have h0:=h _ (.refl ..);unfold vF at hk ⊢;generalize σ.bx.getD c none=y at hk ⊢;cases y with
 |none=>exact h0 hk
 |some x =>
  dsimp only at hk ⊢;split at hk
  ·rename_i ha;rw[if_pos ha];exact h0 hk
  ·rename_i ha;rw[if_neg ha];generalize x.cs.getD off .undef=v at hk ⊢;cases v with
   |aslc b o len esz ag =>
    dsimp only at hk ⊢;generalize σ.zg b=z at hk ⊢;cases z with
    |none=>exact hk.elim
    |some cs =>
     dsimp only at hk ⊢;split at hk
     ·rename_i hc;rw[if_pos hc];exact uN (fun hk=>UJ (fun es hk=>h ⟨σ.sl,_⟩ ⟨rfl,fun _ _=>rfl⟩ hk) hk) hk
     ·exact hk.elim
   |_=>exact h0 hk
theorem Kh {off c:Nat} {σ:St} {K K':St->Prop} (h:∀σ',FrD (fun _=>False) σ σ'->K σ'->K' σ') (hk:TC off c σ K):TC off c σ K':=by
 have h0:=h _ (.refl ..);unfold TC at hk ⊢;generalize σ.bx.getD c none=y at hk ⊢;cases y with
 |none=>exact h0 hk
 |some x =>
  dsimp only at hk ⊢;split at hk
  ·rename_i ha;rw[if_pos ha];exact h0 hk
  ·rename_i ha;rw[if_neg ha];generalize x.cs.getD off .undef=v at hk ⊢;cases v with
   |slc m es =>
    cases m with
    |zero=>exact h0 hk
    |succ m =>
     obtain ⟨v,r,he,hk⟩:=hk;exact⟨v,r,he,h ⟨σ.sl,_⟩ ⟨rfl,fun _ _=>rfl⟩ hk⟩
   |aslc b o len esz ag =>
    obtain ⟨k,he,hk⟩:=hk;exact⟨k,he,h ⟨σ.sl,_⟩ ⟨rfl,fun _ _=>rfl⟩ hk⟩
   |_=>exact h0 hk
theorem YB:∀ {ts:List Nat} {σ:St} {K K':St->Prop},(∀σ',FrD (fun i=>∃t∈ts,t<1000000000/\i=t % 1000000) σ σ'->K σ'->K' σ')->qp n ts σ K->qp n ts σ K':=by
 intro ts;induction ts with
 |nil=>intro σ K K' h hk;exact h _ (.refl ..) hk
 |cons t r ih =>
  intro σ K K' h hk;have rest:∀τ,FrD (fun i=>t<1000000000/\i=t % 1000000) σ τ->qp n r τ K->qp n r τ K':=fun τ hf hk =>
   ih (fun υ hf' hk=>h _ ((hf.weak fun i hi=>⟨t,List.mem_cons_self ..,hi⟩).trans (hf'.weak fun i ⟨q,hq,he⟩=>⟨q,List.mem_cons_of_mem _ hq,he⟩)) hk) hk
  simp only[qp] at hk ⊢;split at hk
  ·rename_i hlt;rw[if_pos hlt];exact Um (fun τ hf hk=>rest τ (hf.weak fun i hi=>⟨by omega,by rw[hi,Nat.mod_eq_of_lt hlt]⟩) hk) hk
  ·rename_i hlt;rw[if_neg hlt];split at hk
   ·rename_i hlt2;rw[if_pos hlt2];split at hk
    ·rename_i h9;rw[if_pos h9];exact Um (fun τ hf hk=>rest τ (hf.weak fun i hi=>⟨hlt2,hi⟩) hk) hk
    ·rename_i h9;rw[if_neg h9];exact Lk (fun τ hf hk=>rest τ (hf.weak fun i hi=>⟨hlt2,hi⟩) hk) hk
   ·rename_i hlt2;rw[if_neg hlt2];split at hk
    ·rename_i h9;rw[if_pos h9];exact Un (fun τ hf hk=>rest τ (hf.weak fun i hi=>hi.elim) hk) hk
    ·rename_i h9;rw[if_neg h9];split at hk
     ·rename_i h8;rw[if_pos h8];exact Kh (fun τ hf hk=>rest τ (hf.weak fun i hi=>hi.elim) hk) hk
     ·rename_i h8;rw[if_neg h8];exact Un (fun τ hf hk=>rest τ (hf.weak fun i hi=>hi.elim) hk) hk
theorem Mn {L:Nat} {cap:List (Nat × Nat × TypeId)} {t:Nat} (h:t∈qI L cap):L<=t:=by
 unfold qI at h;obtain ⟨i,_,rfl⟩:=List.mem_map.1 h;omega
theorem Jd {D:List Nat} {p:Pat} {L:Nat} (h:xH D p=true):xH (D++qI L p.cap) (p.up L)=true:=by
 unfold xH at h ⊢;simp only[List.all_eq_true,List.contains_iff_mem,List.mem_append,Pat.up] at h ⊢;intro t ht;rcases ht with ht | ht
 ·exact .inl (h t (.inl ht))
 ·rw[List.map_append,List.mem_append] at ht;rcases ht with ht | ht
  ·exact .inl (h t (.inr ht))
  ·obtain ⟨q,hq,rfl⟩:=List.mem_map.1 ht;obtain ⟨r,hr,rfl⟩:=wA hq;exact .inr (List.of_mem_zip hr).1
theorem JQ {p:Pat} {L:Nat}:(p.up L).app.length=p.app.length+p.cap.length:=by
 simp[Pat.up,qI]
theorem kr {keep D:List Nat} {p:Pat} {σ:St} {gs:List AV} {ls:List (List AV)} {bs:List AV} (hp:xH D p=true) :
  FrD (fun t=>t∈D\/t∉keep) σ (wL p.cap (qP P n (keep++qI σ.sl.length p.cap) (D++qI σ.sl.length p.cap) (p.up σ.sl.length) (jM p.cap σ) gs ls bs)):=by
 obtain ⟨l1,l2⟩:=Uw p.cap σ;have hf:=MJ (P:=P) (n:=n) (keep:=keep++qI σ.sl.length p.cap) (σ:=jM p.cap σ) (gs:=gs) (ls:=ls) (bs:=bs) (Jd (L:=σ.sl.length) hp);obtain ⟨d1,d2⟩:=Ko p.cap (qP P n (keep++qI σ.sl.length p.cap) (D++qI σ.sl.length p.cap) (p.up σ.sl.length) (jM p.cap σ) gs ls bs) (by rw[hf.1,l1];omega);refine⟨by rw[d1,hf.1,l1];omega,fun t ht=>?_⟩;simp only[not_or,Classical.not_not] at ht;rcases Nat.lt_or_ge t σ.sl.length with hl | hl
 ·rw[d2 t (by rw[hf.1,l1];omega),hf.2 t ?_,l2 t hl];rintro (h | h)
  ·rcases List.mem_append.1 h with h | h
   ·exact ht.1 h
   ·have:=Mn h;omega
  ·exact h (List.mem_append_left _ ht.2)
 ·rw[yH (by rw[d1,hf.1,l1];omega),yH hl]
theorem j0 {keep D:List Nat} {p:Pat} {σ:St} {C C':List AV->St->Prop}
  (h:∀gs ls bs,C (xz gs ls bs) (wL p.cap (qP P n (keep++qI σ.sl.length p.cap) (D++qI σ.sl.length p.cap) (p.up σ.sl.length) (jM p.cap σ) gs ls bs)) ->
   C' (xz gs ls bs) (wL p.cap (qP P n (keep++qI σ.sl.length p.cap) (D++qI σ.sl.length p.cap) (p.up σ.sl.length) (jM p.cap σ) gs ls bs))) (hk:jI P n keep D p σ C):jI P n keep D p σ C':=by
 unfold jI at *;exact OA h hk
theorem qv {keep D:List Nat} {p:Pat} {σ0 σ:St} {entry:Bool} {C:List AV->Prop} (hlen:σ.sl.length=σ0.sl.length) (hkept:∀t,t∈keep->t∉D->σ.sl.getD t .undef=σ0.sl.getD t .undef) (hen:entry=true->σ0=σ)
  (hk:qb P n keep D p entry σ0 σ C):∃gs ls bs,C (xz gs ls bs)/\qZ (p.gen.map (·.2)) gs=true/\ls.length=p.app.length+p.cap.length/\qZ (p.bgen.map (·.2)) bs=true /\
   xQ n σ (wL p.cap (qP P n (keep++qI σ0.sl.length p.cap) (D++qI σ0.sl.length p.cap) (p.up σ0.sl.length) (jM p.cap σ0) gs ls bs)):=by
 unfold qb at hk;dsimp only at hk;split at hk
 case isFalse=>exact hk.elim
 rename_i hc;obtain ⟨a1,a2⟩:=Uw p.cap σ;obtain ⟨b1,b2⟩:=Uw p.cap σ0;obtain ⟨gs,ls,bs,h1,h2,h3,h4,h5⟩:=PL (by rw[a1,b1,hlen]) (fun t ht hd=>by
  simp only[List.mem_append,not_or] at ht hd;rcases ht with ht | ht
  ·rcases Nat.lt_or_ge t σ0.sl.length with hl | hl
   ·rw[a2 t (by omega),b2 t hl];exact hkept t ht hd.1
   ·by_cases hl2:t<σ0.sl.length+p.cap.length
    ·exact absurd (List.mem_map.2 ⟨t-σ0.sl.length,List.mem_range.2 (by omega),by omega⟩) hd.2
    ·rw[yH (by rw[a1];omega),yH (by rw[b1];omega)]
  ·exact absurd ht hd.2) (fun he=>by rw[hen he]) hk
 refine⟨gs,ls,bs,h1,h2,?_,h4,(Kp p.cap hc h5).zY⟩;rw[h3,JQ]
theorem jV {keep D:List Nat} {p:Pat} {σ:St} {C:List AV->St->Prop} {gs:List AV} {ls:List (List AV)} {bs:List AV} (h1:qZ (p.gen.map (·.2)) gs=true) (h2:ls.length=p.app.length+p.cap.length) (h3:qZ (p.bgen.map (·.2)) bs=true)
  (hk:jI P n keep D p σ C):C (xz gs ls bs) (wL p.cap (qP P n (keep++qI σ.sl.length p.cap) (D++qI σ.sl.length p.cap) (p.up σ.sl.length) (jM p.cap σ) gs ls bs)) :=
 by
 unfold jI at hk;exact MI (p:=p.up σ.sl.length) h1 (by rw[h2,JQ]) h3 hk
theorem Uk {l:List AV}:∀(ts:List Nat) (t:Nat),t∉ts->(ts.foldl (fun l t=>l.set t .undef) l).getD t .undef=l.getD t .undef:=by
 intro ts;induction ts generalizing l with
 |nil=>intro t _;rfl
 |cons x r ih =>
  intro t ht;simp only[List.mem_cons,not_or] at ht;simp only[List.foldl_cons];rw[ih t ht.2];simp only[List.getD,List.getElem?_set_ne (Ne.symm ht.1)]
theorem Yi {l:List AV}:∀(ts:List Nat),(ts.foldl (fun l t=>l.set t .undef) l).length=l.length:=by
 intro ts;induction ts generalizing l with
 |nil=>rfl
 |cons x r ih=>simp only[List.foldl_cons,ih,List.length_set]
theorem SA (hI:kF S.inl) {ctl:Ctl}:∀(c:Code) {n:Nat} {σ:St} {K K':Ex->St->Prop},(∀e σ',FrD (CD ctl c) σ σ'->K e σ'->K' e σ')->awp P S n ctl c σ K->awp P S n ctl c σ K':=by
 intro c;induction c with
 |skip=>intro n σ K K' h hk;exact h _ _ (.refl ..) hk
 |region id ops draw =>
  intro n σ K K' h hk;have hc:∀τ σ',FrD (fun i=>∃t∈ctl.zC id,t<1000000000/\i=t % 1000000) σ τ->FrD (Ys (qi ops.toList)) τ σ'->FrD (CD ctl (.region id ops draw)) σ (clean ctl.keep σ'):=fun τ σ' hz hf =>
   ((hz.weak fun t ⟨u,hu,hlt,ht⟩=>.inl (List.mem_append_right _ (by obtain ⟨q,hq,he⟩:=List.mem_map.1 hu;exact List.mem_map.2 ⟨q,List.mem_filter.2 ⟨(List.mem_filter.1 hq).1,by rw[he];exact decide_eq_true hlt⟩,by rw[he,ht]⟩))).trans
   (hf.weak fun t ht=>.inl (List.mem_append_left _ (List.mem_filterMap.2 (by obtain ⟨o,ho,he⟩:=List.mem_map.1 ht;exact⟨o,ho,he⟩))))).trans ((Ke ctl.keep σ').weak fun t ht=>.inr ht)
  cases draw with
  |true =>
   simp only[awp,qO,wU,jZ] at hk ⊢;refine YB (fun τ hz hk=>?_) hk;split at hk
   ·rename_i hc2;rw[if_pos hc2];exact Kl hI (fun σ' hf hk=>h _ _ (hc τ σ' hz hf) hk) hk
   ·exact hk.elim
  |false =>
   simp only[awp,qO,wU] at hk ⊢;refine YB (fun τ hz hk=>?_) hk;split at hk
   ·rename_i hm;rw[if_pos hm];exact LV hI _ (fun o ho=>List.mem_map.2 ⟨o,ho,rfl⟩) (fun σ' hf hk=>h _ _ (hc τ σ' hz hf) hk) hk
   rename_i hm;rw[if_neg hm];exact J3 hI _ (fun o ho=>List.mem_map.2 ⟨o,ho,rfl⟩) (fun σ' hf hk=>h _ _ (hc τ σ' hz hf) hk) hk
 |seq a b iha ihb =>
  intro n σ K K' h hk;have ha:∀ {σ σ'},FrD (CD ctl a) σ σ'->FrD (CD ctl (.seq a b)) σ σ':=fun hf=>hf.weak fun t ht=>ht.imp Y6.1 id
  have hb:∀ {σ σ'},FrD (CD ctl b) σ σ'->FrD (CD ctl (.seq a b)) σ σ':=fun hf=>hf.weak fun t ht=>ht.imp Y6.2 id
  simp only[awp,qO] at hk ⊢;split at hk
  ·rename_i p hp;unfold NQ at hk ⊢;split at hk
   case isFalse=>exact hk.elim
   rename_i hin;rw[if_pos hin];obtain ⟨J,h1,h2⟩:=hk;refine⟨J,iha (fun e σ' hf hk=>?_) h1,j0 (fun gs ls bs hk hj=>ihb (fun e σ' hf hk=>h _ _ ?_ hk) (hk hj)) h2⟩
   ·cases e with
    |normal=>exact hk
    |exit i=>exact h _ _ (ha hf) hk
    |ret=>exact h _ _ (ha hf) hk
   ·exact(ha (kr hin)).trans (hb hf)
  ·refine iha (fun e σ' hf hk=>?_) hk;cases e with
   |normal=>exact ihb (fun e σ'' hf' hk=>h _ _ ((ha hf).trans (hb hf')) hk) hk
   |exit i=>exact h _ _ (ha hf) hk
   |ret=>exact h _ _ (ha hf) hk
 |cond c a b iha ihb =>
  intro n σ K K' h hk;have ha:∀ {σ σ'},FrD (CD ctl a) σ σ'->FrD (CD ctl (.cond c a b)) σ σ':=fun hf=>hf.weak fun t ht=>ht.imp Y6.1 id
  have hb:∀ {σ σ'},FrD (CD ctl b) σ σ'->FrD (CD ctl (.cond c a b)) σ σ':=fun hf=>hf.weak fun t ht=>ht.imp Y6.2 id
  simp only[awp,qO] at hk ⊢;split at hk
  ·exact iha (fun e σ' hf hk=>h _ _ (ha hf) hk) hk
  ·exact ihb (fun e σ' hf hk=>h _ _ (hb hf) hk) hk
  ·exact Y1 (iha (fun e σ' hf hk=>h _ _ (ha hf) hk)) (ihb (fun e σ' hf hk=>h _ _ (hb hf) hk)) hk
  ·exact hk.elim
 |block id b ih =>
  intro n σ K K' h hk;simp only[awp,qO] at hk ⊢;refine ih (fun e σ' hf hk=>?_) hk;cases e with
  |normal=>exact h _ _ hf hk
  |exit i =>
   simp only at hk ⊢;split at hk
   ·rename_i hi;rw[if_pos hi];exact h _ _ hf hk
   ·rename_i hi;rw[if_neg hi];exact h _ _ hf hk
  |ret=>exact h _ _ hf hk
 |loop b ih =>
  intro n σ K K' h hk;simp only[awp,qO] at hk ⊢;split at hk
  ·rename_i p hp;unfold NU at hk ⊢;split at hk
   case isFalse=>exact hk.elim
   rename_i hin;rw[if_pos hin];obtain ⟨I,h1,h2⟩:=hk;refine⟨I,h1,fun m=>j0 (fun gs ls bs hk hj=>ih (fun e σ' hf hk=>?_) (hk hj)) (h2 m)⟩;have hff:FrD (CD ctl (.loop b)) σ σ':=(FrD.weak (kr hin) fun t ht=>ht).trans (hf.weak fun t ht=>ht);cases e with
   |normal=>exact hk
   |exit i=>exact h _ _ hff hk
   |ret=>exact h _ _ hff hk
  ·have key:∀(m:Nat) {σ1:St},FrD (CD ctl (.loop b)) σ σ1->Pd (qO P S ctl b n) m σ1 K->Pd (qO P S ctl b n) m σ1 K':=by
    intro m;induction m with
    |zero=>intro σ1 _ hk;exact hk.elim
    |succ m ihm =>
     intro σ1 h1 hk;refine ih (fun e σ2 hf hk=>?_) hk;have hff:FrD (CD ctl (.loop b)) σ σ2:=h1.trans (hf.weak fun t ht=>ht);cases e with
     |normal=>exact ihm hff hk
     |exit i=>exact h _ _ hff hk
     |ret=>exact h _ _ hff hk
   exact key 13 (.refl ..) hk
 |exit id=>intro n σ K K' h hk;exact h _ _ (.refl ..) hk
 |ret=>intro n σ K K' h hk;exact h _ _ (.refl ..) hk
 |rangeFunc g ps x y ihx ihy =>
  intro n σ K K' h hk;simp only[awp,qO] at hk ⊢;split at hk
  case h_2=>exact hk.elim
  rename_i p hp;split at hk
  case isFalse=>exact hk.elim
  rename_i hnr;rw[if_pos hnr];unfold S6 at hk ⊢;split at hk
  case h_2=>exact hk.elim
  split at hk
  case h_2=>exact hk.elim
  split at hk
  case isFalse=>exact hk.elim
  rename_i hc;rw[if_pos hc];simp only[Bool.and_eq_true] at hc;have hin:xH [] p=true:=hc.2;obtain ⟨xs,h1,hway⟩:=hk;have h0:∀(sl:List AV) (bx bx':List (Option Bx)),FrD (CD ctl (.rangeFunc g ps x y)) σ ⟨sl,bx⟩->FrD (CD ctl (.rangeFunc g ps x y)) σ ⟨sl,bx'⟩:=fun sl bx bx' hf=>⟨hf.1,hf.2⟩
  have hs0:FrD (CD ctl (.rangeFunc g ps x y)) σ ⟨(Qc g++(ctl.fz.filter (fun q:Nat × Nat=>decide (q.2<1000000000))).map (fun q:Nat × Nat=>q.2 % 1000000)).foldl (fun l t=>l.set t .undef) σ.sl,σ.bx⟩:=by
   refine⟨Yi _,fun t ht=>Uk _ t fun hm=>ht (.inl ?_)⟩;rcases List.mem_append.1 hm with hm | hm
   case inr=>exact List.mem_append_right _ hm
   refine List.mem_append_left _ ?_;unfold Qc at hm;cases g with
   |tmp q=>simp only[List.mem_singleton] at hm;subst hm;simp[um]
   |_=>simp at hm
  have round:∀ {τ:St} {x1:List AV} {N N':St->Prop},FrD (CD ctl (.rangeFunc g ps x y)) σ τ->(∀bx,N ⟨τ.sl,bx⟩->N' ⟨τ.sl,bx⟩) ->
    (if yp τ && decide (n<=τ.bx.length) then (fun τ K'=>qO P S ctl x (τ.bx.length-τ.sl.length) τ fun e σa=>match e with
     |.normal=>if yp σa && (List.range (τ.bx.length-τ.sl.length)).all (fun b=>qh τ.bx b == qh σa.bx b) then qO P S ctl y σa.bx.length (σa.more (σa.sl.length+8)) K' else False
     |_=>False) ⟨jP τ.sl ps.toList x1,τ.bx++List.replicate τ.sl.length none⟩ (fun e σ1=>if qA n τ.bx σ1.bx then (match e with
      |.normal=>N ⟨τ.sl,σ1.bx⟩
      |e=>K e ⟨τ.sl,σ1.bx⟩) else False) else False) ->
    (if yp τ && decide (n<=τ.bx.length) then (fun τ K'=>qO P S ctl x (τ.bx.length-τ.sl.length) τ fun e σa=>match e with
     |.normal=>if yp σa && (List.range (τ.bx.length-τ.sl.length)).all (fun b=>qh τ.bx b == qh σa.bx b) then qO P S ctl y σa.bx.length (σa.more (σa.sl.length+8)) K' else False
     |_=>False) ⟨jP τ.sl ps.toList x1,τ.bx++List.replicate τ.sl.length none⟩ (fun e σ1=>if qA n τ.bx σ1.bx then (match e with
      |.normal=>N' ⟨τ.sl,σ1.bx⟩
      |e=>K' e ⟨τ.sl,σ1.bx⟩) else False) else False):=by
   intro τ x1 N N' hfr hN hk;split at hk
   ·rename_i hl;rw[if_pos hl];refine ihx (fun e σa _ hk=>?_) hk;cases e with
    |normal =>
     dsimp only at hk ⊢;split at hk
     ·rename_i hl2;rw[if_pos hl2];refine ihy (fun e σ1 _ hk=>?_) hk;split at hk
      case isFalse=>exact hk.elim
      rename_i hbk;rw[if_pos hbk];cases e with
      |normal=>exact hN _ hk
      |exit i=>exact h _ _ (h0 _ _ _ hfr) hk
      |ret=>exact h _ _ (h0 _ _ _ hfr) hk
     ·exact hk.elim
    |exit i=>exact hk.elim
    |ret=>exact hk.elim
   ·exact hk.elim
  refine⟨xs,h1,?_⟩;dsimp only at hway ⊢;split at hway
  ·rename_i hun;rw[if_pos hun];obtain ⟨h2,hnil,I,h3,h4,h5⟩:=hway;refine⟨h2,fun he=>h _ _ (h0 _ _ _ hs0) (hnil he),I,jY _ (fun z hk hz=>?_) h3,fun i=>jY _ (fun z hk hz=>j0 (fun gs ls bs hk hj=>?_) (hk hz)) (h4 i),j0 (fun gs ls bs hk hj=>h _ _ ?_ (hk hj)) h5⟩
   ·exact round (N:=fun τ'=>qb P n ctl.keep [] _ false _ τ' (I 1)) (N':=fun τ'=>qb P n ctl.keep [] _ false _ τ' (I 1)) (h0 _ _ _ hs0) (fun bx hk=>hk) (hk hz)
   ·exact round (N:=fun τ'=>qb P n ctl.keep [] _ false _ τ' (I (i+2))) (N':=fun τ'=>qb P n ctl.keep [] _ false _ τ' (I (i+2))) ((h0 _ _ _ hs0).trans ((kr (p:=p.res n _) hin).weak fun t ht=>ht.elim (fun h=>by cases h) .inr)) (fun bx hk=>hk) (hk hj)
   ·exact(h0 _ _ _ hs0).trans ((kr (p:=p.res n _) hin).weak fun t ht=>ht.elim (fun h=>by cases h) .inr)
  rename_i hpl;rw[if_neg hpl];split at hway
  ·rename_i hun;rw[if_pos hun];refine⟨hway.1,?_⟩;have key:∀(ys:List (List AV)) (τ:St),FrD (CD ctl (.rangeFunc g ps x y)) σ τ->YG n ps.toList (fun τ K'=>qO P S ctl x (τ.bx.length-τ.sl.length) τ fun e σa=>match e with
     |.normal=>if yp σa && (List.range (τ.bx.length-τ.sl.length)).all (fun b=>qh τ.bx b == qh σa.bx b) then qO P S ctl y σa.bx.length (σa.more (σa.sl.length+8)) K' else False
     |_=>False) K ys τ->YG n ps.toList (fun τ K'=>qO P S ctl x (τ.bx.length-τ.sl.length) τ fun e σa=>match e with
     |.normal=>if yp σa && (List.range (τ.bx.length-τ.sl.length)).all (fun b=>qh τ.bx b == qh σa.bx b) then qO P S ctl y σa.bx.length (σa.more (σa.sl.length+8)) K' else False
     |_=>False) K' ys τ:=by
    intro ys;induction ys with
    |nil=>intro τ hfr hk;exact h _ _ hfr hk
    |cons z r ih=>intro τ hfr hk;exact round hfr (fun bx hk=>ih _ (h0 _ _ _ hfr) hk) hk
   exact key _ _ (h0 _ _ _ hs0) hway.2
  rename_i hun;rw[if_neg hun];obtain ⟨h2,I,h3,h4,h5⟩:=hway;refine⟨h2,I,h3,fun i=>jY _ (fun z hk hz=>j0 (fun gs ls bs hk hj=>?_) (hk hz)) (h4 i),j0 (fun gs ls bs hk hj=>h _ _ ?_ (hk hj)) h5⟩
  ·exact round (N:=fun τ'=>qb P n ctl.keep [] _ false _ τ' (I (i+1))) (N':=fun τ'=>qb P n ctl.keep [] _ false _ τ' (I (i+1))) ((h0 _ _ _ hs0).trans ((kr (p:=p.res n _) hin).weak fun t ht=>ht.elim (fun h=>by cases h) .inr)) (fun bx hk=>hk) (hk hj)
  ·exact(h0 _ _ _ hs0).trans ((kr (p:=p.res n _) hin).weak fun t ht=>ht.elim (fun h=>by cases h) .inr)
 |scope b _=>intro n σ K K' h hk;exact hk.elim
 |label l=>intro n σ K K' h hk;exact hk.elim
 |goto l=>intro n σ K K' h hk;exact hk.elim
 |refuse s=>intro n σ K K' h hk;exact hk.elim
theorem OD (hI:kF S.inl) {ctl:Ctl} {b:Code} {K:Ex->St->Prop}:∀ {m k:Nat} {σ:St},m<=k->TO n (awp P S n ctl b) m σ K->TO n (awp P S n ctl b) k σ K:=by
 intro m;induction m with
 |zero=>intro k σ _ h;exact h.elim
 |succ m ih =>
  intro k σ hk h;cases k with
  |zero=>omega
  |succ k =>
   refine SA hI b (fun e σ' _ h=>?_) h;cases e with
   |normal=>obtain ⟨σ'',hw,h⟩:=h;exact⟨σ'',hw,ih (by omega) h⟩
   |exit i=>exact h
   |ret=>exact h
theorem OJ (hI:kF S.inl) {ctl:Ctl} {b:Code} {p:Pat} {σ:St} {K:Ex->St->Prop} (h:NU P n ctl.keep (ctl.dsts b) p (awp P S n ctl b) σ K):∃σ',xQ n σ σ'/\∃m,TO n (awp P S n ctl b) m σ' K:=by
 unfold NU at h;split at h
 case isFalse=>exact h.elim
 rename_i hin;obtain ⟨I,h1,h2⟩:=h;have key:∀(m:Nat) (gs:List AV) (ls:List (List AV)) (bs:List AV),I m (xz gs ls bs)->qZ (p.gen.map (·.2)) gs=true->ls.length=p.app.length+p.cap.length->qZ (p.bgen.map (·.2)) bs=true ->
   TO n (awp P S n ctl b) (m+1) (wL p.cap (qP P n (ctl.keep++qI σ.sl.length p.cap) (ctl.dsts b++qI σ.sl.length p.cap) (p.up σ.sl.length) (jM p.cap σ) gs ls bs)) K:=by
  intro m;induction m using Nat.strongRecOn with
  |_ m ih =>
   intro gs ls bs hI' h3 h4 h5;refine SA hI b (fun e σ' hf hk=>?_) (jV h3 h4 h5 (h2 m) hI');cases e with
   |exit i=>exact hk
   |ret=>exact hk
   |normal =>
    have hff:=(kr (P:=P) (n:=n) (keep:=ctl.keep) (σ:=σ) (gs:=gs) (ls:=ls) (bs:=bs) hin).trans (hf.weak fun t ht=>ht);obtain ⟨gs',ls',bs',⟨k,hk,hI'⟩,h3,h4,h5,hw⟩:=qv hff.1 (fun t h1 h2=>hff.2 t (by simp only[not_or,Classical.not_not];exact⟨h2,h1⟩)) (by simp) hk;exact⟨_,hw,OD hI (by omega) (ih k hk gs' ls' bs' hI' h3 h4 h5)⟩
 obtain ⟨gs,ls,bs,⟨m,hI'⟩,h3,h4,h5,hw⟩:=qv rfl (fun _ _ _=>rfl) (fun _=>rfl) h1;exact⟨_,hw,_,key m gs ls bs hI' h3 h4 h5⟩
theorem MR (hI:kF S.inl) {ctl:Ctl} {a:Code} {g:St->(Ex->St->Prop)->Prop} {p:Pat} {k:Nat} {σ:St} {K:Ex->St->Prop} (h:NQ P n ctl.keep (ctl.dsts a) p (fun σ K'=>awp P S n ctl a σ fun e σ=>match e with
   |.normal=>qp n (ctl.zC k) σ fun σ=>K' .normal σ
   |e=>K' e σ) g σ K) :
  awp P S n ctl a σ fun e σ1=>match e with
   |.normal=>qp n (ctl.zC k) σ1 fun σ1=>∃σ',xQ n σ1 σ'/\g σ' K
   |e=>K e σ1:=by
 unfold NQ at h;split at h
 case isFalse=>exact h.elim
 rename_i hin;obtain ⟨J,h1,h2⟩:=h;refine SA hI a (fun e σ' hf hk=>?_) h1;cases e with
 |exit i=>exact hk
 |ret=>exact hk
 |normal =>
  refine YB (fun τ hz hk=>?_) hk;have hf:=hf.trans (hz.weak (D':=CD ctl a) fun t ⟨u,hu,hlt,ht⟩=>.inl (List.mem_append_right _ (by obtain ⟨q,hq,he⟩:=List.mem_map.1 hu;exact List.mem_map.2 ⟨q,List.mem_filter.2 ⟨(List.mem_filter.1 hq).1,by rw[he];exact decide_eq_true hlt⟩,by rw[he,ht]⟩)));obtain ⟨gs,ls,bs,hJ,h3,h4,h5,hw⟩:=qv hf.1 (fun t h1 h2=>hf.2 t (by simp only[CD,not_or,Classical.not_not];exact⟨h2,h1⟩)) (by simp) hk;exact⟨_,hw,jV h3 h4 h5 h2 hJ⟩
end
end Go.Proofs.YtkojpnkknehhmaaGreatDoor

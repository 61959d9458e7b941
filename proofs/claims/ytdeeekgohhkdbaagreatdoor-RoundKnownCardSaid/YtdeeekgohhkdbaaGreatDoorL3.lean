/- What is followed may be followed to more. -/
import Derived.Test.YtdeeekgohhkdbaaGreatDoorW0
namespace Go.Proofs.YtdeeekgohhkdbaaGreatDoor
open Go.RowKit
def FrD (D:Nat->Prop) (Z Z':St):Prop:=Z'.sl.length=Z.sl.length/\∀t,¬ D t->Z'.sl.getD t .undef=Z.sl.getD t .undef
theorem FrD.refl (D:Nat->Prop) (Z:St):FrD D Z Z:=⟨rfl,fun _ _=>rfl⟩
theorem FrD.trans {D:Nat->Prop} {Z τ υ:St} (h:FrD D Z τ) (h':FrD D τ υ):FrD D Z υ:=⟨h'.1.trans h.1,fun t ht=>(h'.2 t ht).trans (h.2 t ht)⟩
theorem FrD.weak {D D':Nat->Prop} {Z τ:St} (h:FrD D Z τ) (hd:∀t,D t->D' t):FrD D' Z τ:=⟨h.1,fun t ht=>h.2 t fun hh=>ht (hd t hh)⟩
def Dst (d:Option Nat) (t:Nat):Prop:=d=some t
theorem FrD.put (Z:St) (d:Option Nat) (v:AV):FrD (Dst d) Z (Z.put d v):=by
 cases d with
 |none=>exact .refl ..
 |some d =>
  refine⟨by simp[St.put],fun t ht=>?_⟩;have:d≠t:=fun h=>ht (by rw[h];rfl)
  simp only[St.put,List.getD,List.getElem?_set_ne this]
theorem FrD.bx (Z:St) (D:Nat->Prop) (bx:List (Option Bx)):FrD D Z { Z with bx:=bx }:=⟨rfl,fun _ _=>rfl⟩
theorem Ang.mono {α:Type} {F:(α->Prop)->Prop} (hF:Ang F) {K K':α->Prop} (h:∀v,K v->K' v) (hk:F K):F K':=by
 obtain ⟨v,h1,h2⟩:=hF K hk;exact h2 K' (h v h1)
theorem uU {g:Nat->Option (List AV)} {l:List (Nat × Nat × Nat × Bool)} {K K':Prop} (h:K->K') (hk:jh g l K):jh g l K':=by
 obtain ⟨h1,h2⟩:=Tn hk;exact h2 g K' (fun _ _=>rfl) (h h1)
mutual
theorem X2:∀(v:AV) (k:AV->Prop),va v k=k v
 |.undef,_ | .tt,_ | .ff,_ | .bool _,_ | .lit _ _,_ | .int _ _,_ | .str _,_ | .nilp,_ | .ref _ _,_ | .slc _ _,_ | .aslc _ _ _ _ _,_ | .nilfn,_ | .nilif,_ | .map _,_ | .nilmap,_ | .yld _,_=>by simp only[va]
 |.eptr cs off,k=>by simp only[va,kh cs]
 |.fn f a c,k=>by simp only[va,kh a,kh c]
 |.iface t v,k=>by simp only[va,X2 v]
 |.agg cs,k=>by simp only[va,kh cs]
 |.tup cs,k=>by simp only[va,kh cs]
theorem kh:∀(l:List AV) (k:List AV->Prop),wo l k=k l
 |[],_=>by simp only[wo]
 |x::r,k=>by simp only[wo,X2 x,kh r]
end
theorem O8 (keep:List Nat):∀(l:List AV) (i:Nat) (k:List AV->Prop),Xt keep i l k=k (xW (fun j v=>if keep.contains j then v else .undef) i l):=by
 intro l;induction l with
 |nil=>intro i k;rfl
 |cons x r ih =>
  intro i k;simp only[Xt,X2,ih,xW];split<;>rfl
theorem O7:∀(l:List (Option Bx)) (k:List (Option Bx)->Prop),vP l k=k l:=by
 intro l;induction l with
 |nil=>intro k;rfl
 |cons x r ih =>
  intro k;cases x with
  |none=>simp only[vP,ih]
  |some x =>
   obtain ⟨t,a,cs⟩:=x;cases a<;>simp only[vP,ih,kh]
theorem xk (keep:List Nat) (Z:St) (K:St->Prop):YG keep Z K=K (clean keep Z):=by
 simp only[YG,O8,O7,clean,WG]
section
variable {P:Program} {S:Specs} {n:Nat}
theorem kI {d:Nat} {x:Bx} {p:AV} {Z:St} {K K':St->Prop} (h:∀Z',FrD (Dst (some d)) Z Z'->K Z'->K' Z') (hk:qS n d x p Z K):qS n d x p Z K':=by
 unfold qS at *;split at hk
 ·rename_i hc;rw[if_pos hc];exact h _ ((FrD.put Z (some d) p).trans (.bx _ _ _)) hk
 ·exact hk.elim
theorem KI {f:FuncId} {args:List AV} {d:Option Nat} {Z:St} {K K':St->Prop} (h:∀Z',FrD (Dst d) Z Z'->K Z'->K' Z') (hk:jM P S n f args d Z K):jM P S n f args d Z K':=by
 unfold jM at *;dsimp only at *;split at hk
 case h_2=>exact hk.elim
 rename_i bs fn hb hf;try simp only[hb,hf]
 split at hk
 ·exact hk.elim
 rename_i hc;rw[if_neg hc];refine uU (fun hk=>?_) hk;refine vo.mono (fun v hk=>?_) hk;refine(Xr _).mono (fun O hk=>⟨hk.1,?_⟩) hk;have hk:=hk.2;split at hk
 ·rename_i h1;rw[if_pos h1];exact h _ ((FrD.bx Z _ _).trans (.put _ d _)) hk
 ·rename_i h1;rw[if_neg h1];split at hk
  ·rename_i h2;rw[if_pos h2];exact h _ ((FrD.bx Z _ _).trans (.put _ d _)) hk
  ·exact hk.elim
def jF (il:vH):Prop:=∀f args Z (K K':AV->St->Prop),(∀v Z',Z'.sl=Z.sl->K v Z'->K' v Z')->il f args Z K->il f args Z K'
theorem Uq (hI:jF S.inl) {f:FuncId} {args:List AV} {d:Option Nat} {Z:St} {K K':St->Prop} (h:∀Z',FrD (Dst d) Z Z'->K Z'->K' Z') (hk:Yp P S n f args d Z K):Yp P S n f args d Z K':=by
 unfold Yp at *;split at hk
 ·rename_i hc;rw[if_pos hc];refine hI f args Z _ _ (fun v Z' hsl hk=>?_) hk;split at hk
  ·rename_i hb;rw[if_pos hb];refine h _ ?_ hk;have:FrD (Dst d) Z Z':=⟨by rw[hsl],fun t _=>by rw[hsl]⟩;exact this.trans (.put _ d _)
  ·exact hk.elim
 ·rename_i hc;rw[if_neg hc];exact KI h hk
theorem Wm {K K':Prop} (h:K->K'):∀ {bs:List Bx} {O:List (List AV)},vO bs O K->vO bs O K':=by
 intro bs;induction bs with
 |nil=>intro O hk;exact h hk
 |cons x r ih =>
  intro O hk;cases O with
  |nil=>exact h hk
  |cons cs s =>
   unfold vO at hk ⊢;split at hk
   ·rename_i hx;rw[if_pos hx];exact⟨hk.1,ih hk.2⟩
   ·rename_i hx;rw[if_neg hx];exact ih hk
theorem Tx {k:Nat->Bool}:∀ {bs:List Bx} {i:Nat} {K K':List (List AV)->Prop},(∀l,K l->K' l)->kz k P i bs K->kz k P i bs K':=by
 intro bs;induction bs with
 |nil=>intro i K K' h hk;exact h _ hk
 |cons x r ih =>
  intro i K K' h hk;unfold kz at hk ⊢;split at hk
  ·rename_i hc;rw[if_pos hc];exact ih (fun l hl=>h _ hl) hk
  ·rename_i hc;rw[if_neg hc];split at hk
   ·rename_i hx;rw[if_pos hx];obtain ⟨zs,hk⟩:=hk;exact⟨zs,ih (fun l hl=>h _ hl) hk⟩
   ·rename_i hx;rw[if_neg hx];exact(T4 _).mono (fun cs hk=>ih (fun l hl=>h _ hl) hk) hk
theorem KJ {f:FuncId} {args:List AV} {d:Option Nat} {Z:St} {K K':St->Prop} (h:∀Z',FrD (Dst d) Z Z'->K Z'->K' Z') (hk:TT P S f args d Z K):TT P S f args d Z K':=by
 unfold TT at *;dsimp only at *;split at hk
 case h_2=>exact hk.elim
 rename_i bs fn hb hf;try simp only[hb,hf]
 split at hk
 ·exact hk.elim
 rename_i hc;rw[if_neg hc];refine Wm (fun hk=>?_) hk;refine vo.mono (fun v hk=>?_) hk;refine Tx (fun O hk=>⟨hk.1,Wm (fun hk=>?_) hk.2⟩) hk;exact h _ ((FrD.bx Z _ _).trans (.put _ d _)) hk
theorem KM (hI:jF S.inl) {f:FuncId} {args:List AV} {d:Option Nat} {Z:St} {K K':St->Prop} (h:∀Z',FrD (Dst d) Z Z'->K Z'->K' Z') (hk:Yq P S n f args d Z K):Yq P S n f args d Z K':=by
 unfold Yq at *;split at hk
 ·rename_i hc;rw[if_pos hc];exact KJ h hk
 ·rename_i hc;rw[if_neg hc];exact Uq hI h hk
theorem LM {ts:List TypeId} {b len:Nat} {K K':Nat->AV->Prop} (h:∀k v,K k v->K' k v) (hk:JK ts b len K):JK ts b len K':=by
 unfold JK at *;split at hk
 ·exact h _ _ hk
 ·obtain ⟨m,h1,h2⟩:=hk;exact⟨m,h1,h _ _ h2⟩
 ·exact hk.elim
theorem Hv {f:FuncId} {b len:Nat} {d:Option Nat} {Z:St} {K K':St->Prop} (h:∀Z',FrD (Dst d) Z Z'->K Z'->K' Z') (hk:LK P S f b len d Z K):LK P S f b len d Z K':=by
 unfold LK at *;split at hk
 ·split at hk
  ·rename_i hx ha;try simp only[hx]
   rw[if_pos ha];refine LM (fun k v hq=>?_) hk;obtain ⟨zs,zs',h1,h2⟩:=hq;refine⟨zs,zs',h1,h _ ?_ h2⟩;have:FrD (Dst d) Z { Z with bx:=Z.bx.set b (some { (by assumption:Bx) with cs:=zs'.map (AV.int .i64) }) }:=⟨rfl,fun t _=>rfl⟩;exact FrD.trans ⟨rfl,fun t _=>rfl⟩ (.put _ d _)
  ·exact hk.elim
 ·exact hk.elim
theorem KQ {f:FuncId} {b len:Nat} {d:Option Nat} {Z:St} {K K':St->Prop} (h:∀Z',FrD (Dst d) Z Z'->K Z'->K' Z') (hk:T1 P S n f b len d Z K):T1 P S n f b len d Z K':=by
 unfold T1 at *;split at hk
 ·rename_i hd he hx;split at hk
  ·rename_i ha;rw[if_pos ha];obtain ⟨zs,ws,h1,h2⟩:=hk;exact⟨zs,ws,h1,kI h h2⟩
  ·exact hk.elim
 ·exact hk.elim
theorem KK {f:FuncId} {args:List AV} {d:Option Nat} {Z:St} {K K':St->Prop} (h:∀Z',FrD (Dst d) Z Z'->K Z'->K' Z') (hk:Xi P S n f args d Z K):Xi P S n f args d Z K':=by
 unfold Xi at *;split at hk
 ·rename_i b len hm;try simp only[hm]
  split at hk
  ·rename_i hc;rw[if_pos hc];exact KQ h hk
  ·rename_i hc;rw[if_neg hc];exact Hv h hk
 rename_i hm;try simp only[hm]
 split at hk
 ·split at hk
  ·rename_i ht;obtain ⟨es,h1,h2⟩:=hk;try simp only
   rw[if_pos ht];exact⟨es,h1,kI h h2⟩
  ·exact hk.elim
 ·exact hk.elim
theorem KL {f:FuncId} {args:List AV} {d:Option Nat} {Z:St} {K K':St->Prop} (h:∀Z',FrD (Dst d) Z Z'->K Z'->K' Z') (hk:uy P S n f args d Z K):uy P S n f args d Z K':=by
 unfold uy at *;split at hk
 ·rename_i hc;try simp only[hc]
  split at hk
  ·split at hk
   ·rename_i h1 h2 h3;try simp only[h1,h2,h3]
    exact⟨hk.1,h _ (.put Z d _) hk.2⟩
   ·exact hk.elim
  ·exact hk.elim
 ·rename_i hc;try simp only[hc]
  exact KK h hk
theorem U0 {t:TypeId} {Z:St} {x:AV} {K K':AV->Prop} (h:∀v,K v->K' v) (hk:uh P t Z x K):uh P t Z x K':=by
 obtain ⟨v,h1,h2⟩:=Ws hk;exact h2 Z (fun _ _=>rfl) K' (h v h1)
theorem L6 {t:TypeId} {Z:St} {a v:AV} {K K':St->Prop} (h:∀Z',FrD (fun _=>False) Z Z'->K Z'->K' Z') (hk:vg P t Z a v K):vg P t Z a v K':=by
 obtain ⟨b,x,_,_,h1,h2⟩:=XI hk;exact h2 Z (fun _ _=>rfl) K' (h _ (.bx _ _ _) h1)
theorem Ob {t:TypeId} {Z:St} {x:AV} {lo hi mx:Option AV} {K K':AV->Prop} (h:∀v,K v->K' v) (hk:kN P t Z x lo hi mx K):kN P t Z x lo hi mx K':=by
 unfold kN at *;repeat' split at hk
 all_goals first
  |exact hk.elim
  |(simp_all;done)
  |(obtain ⟨h1,h2⟩:=hk;simp_all;done)
  |(obtain ⟨⟨h0,h1,h1'⟩,h2⟩:=hk;subst h1;simp_all;done)
theorem uT {k:Nat} {Z:St} {x:AV} {K K':Nat->List AV->Prop} (h:∀m l,K m l->K' m l) (hk:qB Z k x K):qB Z k x K':=by
 unfold qB at *;split at hk
 ·exact⟨hk.1,h _ _ hk.2⟩
 ·split at hk
  ·rename_i hb;(try simp only[hb]);exact⟨hk.1,h _ _ hk.2⟩
  ·exact hk.elim
 ·exact hk.elim
theorem QY {ts:List TypeId} {s x:AV} {d:Nat} {Z:St} {K K':St->Prop} (h:∀Z',FrD (Dst (some d)) Z Z'->K Z'->K' Z') (hk:appendIn P ts s x d Z K):appendIn P ts s x d Z K':=by
 unfold appendIn at *;split at hk
 ·split at hk
  ·rename_i h1 h2;try simp only[h1,h2]
   split at hk
   ·exact hk.elim
   ·rename_i hc;rw[if_neg hc];refine uT (fun m l hk=>?_) hk;split at hk
    ·split at hk
     ·rename_i hb;try simp only[hb]
      split at hk
      ·rename_i hcc;rw[if_pos hcc];exact⟨hk.1,h _ (FrD.put { Z with bx:=_ } (some d) _) hk.2⟩
      ·exact hk.elim
     ·exact hk.elim
    ·exact hk.elim
  ·exact hk.elim
 ·exact hk.elim
theorem OM {ts:List TypeId} {s x:AV} {d:Nat} {Z:St} {K K':St->Prop} (h:∀Z',FrD (Dst (some d)) Z Z'->K Z'->K' Z') (hk:j7 P n ts s x d Z K):j7 P n ts s x d Z K':=by
 unfold j7 at *;split at hk
 ·split at hk
  ·rename_i h1 h2;try simp only[h1,h2]
   split at hk
   ·exact hk.elim
   ·rename_i hc;rw[if_neg hc];refine uT (fun m l hk=>?_) hk;split at hk
    ·exact⟨hk.1,kI h hk.2⟩
    ·exact⟨hk.1,kI h hk.2⟩
    ·split at hk
     ·rename_i hb;try simp only[hb]
      split at hk
      ·rename_i h3;rw[if_pos h3];exact⟨hk.1,kI (fun Z' h1 h2=>h Z' (.trans ⟨rfl,fun _ _=>rfl⟩ h1) h2) hk.2⟩
      ·exact hk.elim
     ·exact hk.elim
    ·exact hk.elim
  ·exact hk.elim
 ·exact hk.elim
theorem Qs {t:TypeId} {Z:St} {m k:AV} {ok:Bool} {K K':AV->Prop} (h:∀v,K v->K' v) (hk:wv P t Z m k ok K):wv P t Z m k ok K':=by
 unfold wv at *;split at hk
 ·split at hk
  ·split at hk
   ·exact⟨hk.1,hk.2.1,(u2 _).mono (fun v ⟨f,h1,h2⟩=>⟨f,h1,h _ h2⟩) hk.2.2⟩
   ·exact hk.elim
  ·exact hk.elim
 ·exact hk.elim
theorem HF {t:TypeId} {Z:St} {m k v:AV} {K K':St->Prop} (h:∀Z',FrD (fun _=>False) Z Z'->K Z'->K' Z') (hk:LS P t Z m k v K):LS P t Z m k v K':=by
 unfold LS at *;split at hk
 ·split at hk
  ·split at hk
   ·obtain ⟨h1,h2,es',h3,h4⟩:=hk;exact⟨h1,h2,es',h3,h _ (.bx _ _ _) h4⟩
   ·exact hk.elim
  ·exact hk.elim
 ·exact hk.elim
theorem JF {d:Nat} {t:TypeId} {Z:St} {K K':St->Prop} (h:∀Z',FrD (Dst (some d)) Z Z'->K Z'->K' Z') (hk:SB n d t Z K):SB n d t Z K':=by
 unfold SB at *;split at hk
 ·rename_i hc;rw[if_pos hc];exact h _ ((FrD.put Z (some d) _).trans (.bx _ _ _)) hk
 ·exact hk.elim
theorem OJ (hI:jF S.inl) {o:Oper} {Z:St} {K K':St->Prop} (h:∀Z',FrD (Dst o.dst) Z Z'->K Z'->K' Z') (hk:aop P S n o Z K):aop P S n o Z K':=by
 have hp:∀v,K (Z.put o.dst v)->K' (Z.put o.dst v):=fun v=>h _ (.put Z o.dst v)
 unfold aop at *;split at hk
 ·split at hk
  ·rename_i hd _;rw[hd] at h;exact kI h hk
  ·exact hk.elim
 ·split at hk
  ·rename_i hd;split at hk
   ·rename_i hc;(try simp only);rw[if_pos hc];rw[hd] at h;exact kI h hk
   ·exact hk.elim
  ·exact hk.elim
 ·split at hk
  ·split at hk
   ·split at hk
    ·rename_i hc;try simp only
     rw[if_pos hc];split at hk
     ·split at hk
      ·rename_i hc2;rw[if_pos hc2];split at hk
       ·rename_i d hd;have hd:o.dst=some d:=by
         unfold XD at hd;split at hd
         ·rename_i d' hd';split at hd<;>simp_all
         ·cases hd
        rw[hd] at h;exact kI h hk
       ·exact hp _ hk
      ·exact hk.elim
     ·exact hk.elim
    ·exact hk.elim
   ·exact hk.elim
  ·exact hk.elim
 ·split at hk
  ·rename_i hd _;rw[hd] at h;exact JF h hk
  ·exact hk.elim
 ·exact Qs (fun v hk=>hp v hk) hk
 ·exact HF (fun Z' h1 h2=>h _ ((h1.weak fun _=>False.elim).trans (.put Z' o.dst _)) h2) hk
 ·exact U0 (fun v hk=>hp v hk) hk
 ·exact L6 (fun Z' h1 h2=>h _ ((h1.weak fun _=>False.elim).trans (.put Z' o.dst _)) h2) hk
 ·exact uI.mono (fun v hk=>hp v hk) hk
 ·exact US.mono (fun v hk=>hp v hk) hk
 ·exact Ob (fun v hk=>hp v hk) hk
 ·split at hk
  ·exact hp _ hk
  ·split at hk
   ·exact hp _ hk
   ·exact hk.elim
 ·split at hk
  ·rename_i hd;split at hk
   ·split at hk
    ·rename_i hc;try simp only
     rw[if_pos hc];rw[hd] at h;exact⟨hk.1,kI h hk.2⟩
    ·exact hk.elim
   ·exact hk.elim
  ·exact hk.elim
 ·exact uA.mono (fun v hk=>hp v hk) hk
 ·exact uA.mono (fun v hk=>hp v hk) hk
 ·exact uA.mono (fun v hk=>hp v hk) hk
 ·exact uA.mono (fun v hk=>hp v hk) hk
 ·split at hk
  ·exact fun b hb=>hp _ (hk b hb)
  ·split at hk
   ·exact hp _ hk
   ·exact hk.elim
 ·split at hk
  ·split at hk
   ·rename_i hc;rw[if_pos hc];exact KL h hk
   ·rename_i hc;rw[if_neg hc];exact Uq hI h hk
  ·split at hk
   ·exact KM hI h hk
   ·exact hk.elim
  ·split at hk
   ·split at hk
    ·rename_i hm;(try simp only[hm]);exact Uq hI h hk
    ·exact hk.elim
   ·exact hk.elim
  ·split at hk
   ·rename_i hs hd;rw[hd] at h;(try simp only[hs]);split at hk
    ·rename_i ho;rw[if_pos ho];exact QY h hk
    ·rename_i ho;rw[if_neg ho];exact OM h hk
   ·exact hk.elim
  ·split at hk
   ·exact hp _ hk
   ·exact hk.elim
 ·split at hk
  ·exact hp _ hk
  ·exact hk.elim
theorem Xh {b:Bool} {A A' B B':Prop} (ha:A->A') (hb:B->B') (h:br b A B):br b A' B':=⟨fun x=>ha (h.1 x),fun x=>hb (h.2 x)⟩
def Yl (l:List (Option Nat)) (t:Nat):Prop:=some t∈l
theorem IB (hI:jF S.inl) {dsts:List (Option Nat)}:∀(ops:List Oper) {Z:St} {K K':St->Prop},(∀o∈ops,o.dst∈dsts)->(∀Z',FrD (Yl dsts) Z Z'->K Z'->K' Z')->xv P S n dsts ops Z K->xv P S n dsts ops Z K':=by
 intro ops;induction ops with
 |nil=>intro Z K K' _ h hk;exact h _ (.refl ..) hk
 |cons o r ih =>
  intro Z K K' hd h hk;have hr:∀o∈r,o.dst∈dsts:=fun x hx=>hd x (List.mem_cons_of_mem _ hx)
  have hdo:∀t,Dst o.dst t->Yl dsts t:=fun t ht=>by have:=hd o (by simp);rw[show o.dst=some t from ht] at this;exact this
  have step:∀Z1,FrD (Yl dsts) Z Z1->xv P S n dsts r Z1 K->xv P S n dsts r Z1 K':=fun Z1 h1 hk=>ih hr (fun Z' h2 hk=>h Z' (h1.trans h2) hk) hk
  have stepO:∀Z1,FrD (Yl dsts) Z Z1->(aop P S n o Z1 fun Z=>xv P S n dsts r Z K)->(aop P S n o Z1 fun Z=>xv P S n dsts r Z K'):=fun Z1 h1 hk=>OJ hI (fun Z' h2 hk=>step Z' (h1.trans (h2.weak hdo)) hk) hk
  have hput:∀Z1 v,FrD (Yl dsts) Z Z1->FrD (Yl dsts) Z (Z1.put o.dst v):=fun Z1 v h1=>h1.trans ((FrD.put Z1 o.dst v).weak hdo)
  unfold xv at hk ⊢;split at hk
  ·exact stepO _ (.refl ..) hk
  ·rename_i j want hg;split at hk
   ·rename_i d hj;have hgd:∀v,FrD (Yl dsts) Z (Z.put (some d) v):=fun v=>(FrD.put Z (some d) v).weak (fun t ht=>by cases ht;exact List.mem_of_getElem? hj)
    split at hk
    ·split at hk
     ·rename_i hw;rw[if_pos hw];exact stepO _ (.refl ..) hk
     ·rename_i hw;rw[if_neg hw];exact step _ (hput _ _ (.refl ..)) hk
    ·split at hk
     ·rename_i hw;rw[if_pos hw];exact step _ (hput _ _ (.refl ..)) hk
     ·rename_i hw;rw[if_neg hw];exact stepO _ (.refl ..) hk
    ·split at hk
     ·rename_i hw;rw[if_pos hw];exact Xh (stepO _ (hgd _)) (step _ (hput _ _ (hgd _))) hk
     ·rename_i hw;rw[if_neg hw];exact Xh (step _ (hput _ _ (hgd _))) (stepO _ (hgd _)) hk
    ·exact step _ (hput _ _ (.refl ..)) hk
    ·exact hk.elim
   ·exact hk.elim
theorem Hu {o:Oper} {M:uq} {Z:St} {K K':uq->St->Prop} (h:∀M Z',FrD (Dst o.dst) Z Z'->K M Z'->K' M Z') (hk:LH P o M Z K):LH P o M Z K':=by
 have hp:∀M v,K M (Z.put o.dst v)->K' M (Z.put o.dst v):=fun M v=>h M _ (.put Z o.dst v)
 have hpop:Wv P o M Z K->Wv P o M Z K':=fun hk=>by
  unfold Wv at *;split at hk
  ·rename_i hc;rw[if_pos hc];split at hk
   ·exact hp _ _ hk
   ·exact hk.elim
  ·exact hk.elim
 have hget:∀b,U6 M o.dst b Z K->U6 M o.dst b Z K':=fun b hk=>by
  unfold U6 at *;split at hk
  ·exact hp _ _ hk
  ·exact hk.elim
 unfold LH at hk ⊢;split at hk
 ·split at hk
  ·rename_i hc;rw[if_pos hc];exact U0 (fun v hk=>hp _ _ hk) hk
  ·exact hk.elim
 ·split at hk
  ·split at hk
   ·rename_i hc;rw[if_pos hc];exact hp _ _ hk
   ·exact hk.elim
  ·exact hk.elim
 ·split at hk
  ·split at hk
   ·rename_i hc;rw[if_pos hc];exact Xh (hget _) (hget _) hk
   ·exact hk.elim
  ·exact hk.elim
 ·split at hk
  ·rename_i d hd hop;rw[hd] at h;split at hk
   ·rename_i hc;rw[if_pos hc];split at hk
    ·rename_i hc2;rw[if_pos hc2];exact h _ _ (.put ..) hk
    ·exact hk.elim
   ·rename_i hc;rw[if_neg hc];exact hpop hk
  ·exact hpop hk
 ·exact hpop hk
theorem Kz (hI:jF S.inl) {dsts:List (Option Nat)}:∀(ops:List Oper) {M:Option uq} {Z:St} {K K':St->Prop},(∀o∈ops,o.dst∈dsts)->(∀Z',FrD (Yl dsts) Z Z'->K Z'->K' Z')->uv P S n ops M Z K->uv P S n ops M Z K':=by
 intro ops;induction ops with
 |nil=>intro M Z K K' _ h hk;exact h _ (.refl ..) hk
 |cons o r ih =>
  intro M Z K K' hd h hk;have hr:∀o∈r,o.dst∈dsts:=fun x hx=>hd x (List.mem_cons_of_mem _ hx)
  have hdo:∀t,Dst o.dst t->Yl dsts t:=fun t ht=>by have:=hd o (by simp);rw[show o.dst=some t from ht] at this;exact this
  have step:∀M Z1,FrD (Yl dsts) Z Z1->uv P S n r M Z1 K->uv P S n r M Z1 K':=fun M Z1 h1 hk=>ih hr (fun Z' h2 hk=>h Z' (h1.trans h2) hk) hk
  unfold uv at hk ⊢;split at hk
  ·exact hk.elim
  ·rename_i hg;rw[if_neg hg];split at hk
   ·split at hk
    ·rename_i d hop hd2;split at hk
     ·rename_i hc;rw[if_pos hc];exact step _ _ ((FrD.put Z (some d) _).weak fun t ht=>hdo t (by rw[hd2];exact ht)) hk
     ·exact hk.elim
    ·exact hk.elim
    ·exact OJ hI (fun Z' h2 hk=>step none Z' (h2.weak hdo) hk) hk
   ·exact Hu (fun M Z' h2 hk=>step _ Z' (h2.weak hdo) hk) hk
theorem Ip {g:Bool} {d:Option Nat} {Z:St} {K K':St->Prop} (h:∀Z',FrD (Dst d) Z Z'->K Z'->K' Z') (hk:split g d Z K):split g d Z K':=by
 unfold split at *;split at hk
 ·split at hk
  ·rename_i hb;(try simp only);exact Xh (h _ (.put ..)) (h _ (.put ..)) hk
  ·(try simp only);exact h _ (.refl ..) hk
 ·exact h _ (.refl ..) hk
theorem Jf (hI:jF S.inl) {dsts:List (Option Nat)} {g:Bool} {o:Oper} {Z:St} {K K':St->Prop} (h:∀Z',FrD (Dst o.dst) Z Z'->K Z'->K' Z') (hk:gop P S n dsts g o Z K):gop P S n dsts g o Z K':=by
 have hs:(aop P S n o Z fun Z=>split g o.dst Z K)->(aop P S n o Z fun Z=>split g o.dst Z K'):=OJ hI fun Z1 h1 hk=>Ip (fun Z2 h2 hk=>h _ (h1.trans h2) hk) hk
 have hp:=h _ (.put Z o.dst (.tup []));unfold gop at *;split at hk
 ·exact hs hk
 ·split at hk
  ·split at hk
   ·split at hk
    ·rename_i hw;rw[if_pos hw];exact hs hk
    ·rename_i hw;rw[if_neg hw];exact hp hk
   ·split at hk
    ·rename_i hw;rw[if_pos hw];exact hp hk
    ·rename_i hw;rw[if_neg hw];exact hs hk
   ·exact hp hk
   ·exact hk.elim
  ·exact hk.elim
theorem Mp (hI:jF S.inl) {ops:Array Oper}:∀(l:List Nat) {past:List Fp} {Z:St} {K K':St->Prop},(∀Z',FrD (Yl (qf ops.toList)) Z Z'->K Z'->K' Z')->Tt P S n ops l past Z K->Tt P S n ops l past Z K':=by
 intro l;induction l with
 |nil=>intro past Z K K' h hk;exact h _ (.refl ..) hk
 |cons i r ih =>
  intro past Z K K' h hk;unfold Tt at hk ⊢;cases ho:ops[i]? with
  |none=>rw[ho] at hk;exact hk.elim
  |some o =>
   rw[ho] at hk;simp only at hk ⊢;have hdo:∀t,Dst o.dst t->Yl (qf ops.toList) t:=fun t ht=>by
    refine List.mem_map.2 ⟨o,?_,ht⟩;have:=List.mem_of_getElem? (by rw[<- Array.getElem?_toList] at ho;exact ho);exact this
   split at hk
   ·exact hk.elim
   ·split at hk
    ·rename_i hc;rw[if_pos hc];refine Jf hI (fun Z' h1 hk=>?_) hk;simp only[kq] at hk ⊢;split at hk
     ·rename_i hc2;rw[if_pos hc2];exact ih (fun Z'' h2 hk=>h _ ((h1.weak hdo).trans h2) hk) hk
     ·exact hk.elim
    ·exact hk.elim
theorem U9 {nm:Bool} {esz:Nat} {ag:Bool} {len:Nat} {cs:List AV} {K K':List AV->Prop} (h:∀es,K es->K' es) (hk:U8 nm esz ag len cs K):U8 nm esz ag len cs K':=by
 unfold U8 at hk ⊢;split at hk
 ·rename_i hn;rw[if_pos hn];obtain ⟨es,h1,h2⟩:=hk;exact⟨es,h1,h es h2⟩
 ·rename_i hn;rw[if_neg hn];exact h _ hk
theorem YQ {nm:Bool} {t:Nat} {Z:St} {K K':St->Prop} (h:∀Z',FrD (fun i=>i=t) Z Z'->K Z'->K' Z') (hk:wq nm n t Z K):wq nm n t Z K':=by
 unfold wq at hk ⊢;split at hk
 ·rename_i hs
  (try simp only[hs])
  split at hk
  ·rename_i hb
   (try simp only[hb])
   split at hk
   ·rename_i hn;rw[if_pos hn];refine uU (fun hk=>U9 (fun es hk=>h _ ⟨by simp,fun i hi=>?_⟩ hk) hk) hk;simp only[List.getD,List.getElem?_set_ne (Ne.symm hi)]
   ·exact hk.elim
  ·exact hk.elim
 ·rename_i hs
  (try simp only[hs])
  split at hk
  ·rename_i hb
   (try simp only[hb])
   split at hk
   ·rename_i hn;rw[if_pos hn];refine h _ ⟨by simp,fun i hi=>?_⟩ hk;simp only[List.getD,List.getElem?_set_ne (Ne.symm hi)]
   ·exact hk.elim
  ·exact hk.elim
 ·exact h _ (.refl ..) hk
theorem L4 {ops:List Oper} {o:Oper} {Z:St} {K K':St->Prop} (h:∀Z',FrD (Yl (qf ops)) Z Z'->K Z'->K' Z') (hk:Yh n ops o Z K):Yh n ops o Z K':=by
 unfold Yh at hk ⊢;split at hk
 ·split at hk
  ·split at hk
   ·split at hk
    ·rename_i hc;rw[if_pos hc];simp only[Bool.and_eq_true,List.contains_iff_mem] at hc;exact YQ (fun τ hf hk=>h τ (hf.weak fun i hi=>by rw[hi];exact hc.2) hk) hk
    ·rename_i hc;rw[if_neg hc];exact h _ (.refl ..) hk
   ·exact h _ (.refl ..) hk
  ·exact h _ (.refl ..) hk
 ·exact h _ (.refl ..) hk
theorem HR (hI:jF S.inl) {ops:Array Oper}:∀(l:List Nat) {Z:St} {K K':St->Prop},(∀Z',FrD (Yl (qf ops.toList)) Z Z'->K Z'->K' Z')->NJ P S n ops l K Z->NJ P S n ops l K' Z:=by
 intro l;induction l with
 |nil=>intro Z K K' h hk;exact h _ (.refl ..) hk
 |cons x r ih =>
  intro Z K K' h hk;unfold NJ at hk ⊢;split at hk
  ·rename_i o ho;exact L4 (fun τ h1 hk=>Jf hI (fun Z2 h2 hk=>ih (fun Z3 h3 hk=>h Z3 (h1.trans ((h2.weak fun t ht=>List.mem_map.2 ⟨o,by simpa using Array.mem_of_getElem? ho,ht⟩).trans h3)) hk) hk) hk) hk
  ·exact hk.elim
theorem KT (hI:jF S.inl) {ops:Array Oper} {ord:List Nat} {Z:St} {K K':St->Prop} (h:∀Z',FrD (Yl (qf ops.toList)) Z Z'->K Z'->K' Z') (hk:T2 P S n ops ord Z K):T2 P S n ops ord Z K':=by
 unfold T2 at hk ⊢;simp only[kq] at hk ⊢;split at hk
 ·rename_i hc;rw[if_pos hc];exact Mp hI _ h hk
 ·rename_i hc;rw[if_neg hc];split at hk
  ·rename_i hf;rw[if_pos hf];exact Mp hI _ (fun Z' hf hk=>HR hI _ (fun Z2 h2 hk=>h Z2 (hf.trans h2) hk) hk) hk
  ·exact hk.elim
end
theorem ja {α:Type}:∀ {l:List (Nat × α)} {a:Nat} {b:α},l.lookup a=some b->(a,b)∈l:=by
 intro l;induction l with
 |nil=>intro a b h;simp at h
 |cons x r ih =>
  intro a b h;obtain ⟨k,v⟩:=x;simp only[List.lookup_cons] at h;split at h
  ·rename_i hk;simp only[beq_iff_eq] at hk;cases h;subst hk;simp
  ·exact List.mem_cons_of_mem _ (ih h)
theorem uO {α:Type}:∀ {l:List (Nat × α)} {a:Nat},l.lookup a=none->∀q∈l,q.1≠a:=by
 intro l;induction l with
 |nil=>intro a h q hq;simp at hq
 |cons x r ih =>
  intro a h q hq;obtain ⟨k,v⟩:=x;simp only[List.lookup_cons] at h;split at h
  ·cases h
  ·rename_i hk;simp only[beq_eq_false_iff_ne,ne_eq] at hk;rcases List.mem_cons.1 hq with rfl | hq
   ·exact fun h=>hk h.symm
   ·exact ih h q hq
theorem SG {α:Type}:∀ {l:List (Nat × α)} {a:Nat} {b c:α},(l.map (·.1)).Nodup->(a,b)∈l->(a,c)∈l->b=c:=by
 intro l;induction l with
 |nil=>intro a b c _ h;simp at h
 |cons x r ih =>
  intro a b c hn hb hc;simp only[List.map_cons,List.nodup_cons,List.mem_map,not_exists,not_and] at hn;rcases List.mem_cons.1 hb with hb | hb
  ·rcases List.mem_cons.1 hc with hc | hc
   ·rw[<- hb] at hc;cases hc;rfl
   ·exact absurd (by rw[<- hb]) (hn.1 _ hc)
  ·rcases List.mem_cons.1 hc with hc | hc
   ·exact absurd (by rw[<- hc]) (hn.1 _ hb)
   ·exact ih hn.2 hb hc
theorem uG:∀(l m:List AV),qZ l m=true->l.length=m.length:=by
 intro l;induction l with
 |nil=>intro m h;cases m with
  |nil=>rfl
  |cons _ _=>simp[qZ] at h
 |cons a r ih=>intro m h;cases m with
  |nil=>simp[qZ] at h
  |cons b s=>simp only[qZ,Bool.and_eq_true] at h;simp[ih s h.2]
mutual
theorem XG {h:Nat->Option Nat} (v:AV) (ht:v.tree=true):v.zj h=v:=by
 cases v with
 |ref b off=>simp[AV.tree] at ht
 |aslc b off len esz ag=>simp[AV.tree] at ht
 |map b=>simp[AV.tree] at ht
 |fn f a b =>
  simp only[AV.tree,Bool.and_eq_true] at ht;simp only[AV.zj];rw[xp a ht.1,xp b ht.2]
 |iface t v=>simp only[AV.zj];rw[XG v (by simpa[AV.tree] using ht)]
 |eptr cs off=>simp only[AV.zj];rw[xp cs (by simpa[AV.tree] using ht)]
 |agg cs=>simp only[AV.zj];rw[xp cs (by simpa[AV.tree] using ht)]
 |tup cs=>simp only[AV.zj];rw[xp cs (by simpa[AV.tree] using ht)]
 |_=>rfl
theorem xp {h:Nat->Option Nat} (l:List AV) (ht:AV.zi l=true):AV.zg h l=l:=by
 cases l with
 |nil=>rfl
 |cons x r =>
  simp only[AV.zi,Bool.and_eq_true] at ht;simp only[AV.zg];rw[XG x ht.1,xp r ht.2]
end
mutual
theorem QG {h:Nat->Option Nat} (v:AV) (ht:∀b∈v.refs,h b=some b):v.zj h=v:=by
 cases v with
 |ref b off=>simp only[AV.zj];rw[ht b (by simp[AV.refs])]
 |aslc b off len esz ag=>simp only[AV.zj];rw[ht b (by simp[AV.refs])]
 |map b=>simp only[AV.zj];rw[ht b (by simp[AV.refs])]
 |fn f a b=>simp only[AV.zj];rw[vz a fun b hb=>ht b (by simp[AV.refs,hb]),vz b fun b hb=>ht b (by simp[AV.refs,hb])]
 |iface t v=>simp only[AV.zj];rw[QG v fun b hb=>ht b (by simpa[AV.refs] using hb)]
 |eptr cs off=>simp only[AV.zj];rw[vz cs fun b hb=>ht b (by simpa[AV.refs] using hb)]
 |agg cs=>simp only[AV.zj];rw[vz cs fun b hb=>ht b (by simpa[AV.refs] using hb)]
 |tup cs=>simp only[AV.zj];rw[vz cs fun b hb=>ht b (by simpa[AV.refs] using hb)]
 |_=>rfl
theorem vz {h:Nat->Option Nat} (l:List AV) (ht:∀b∈AV.zd l,h b=some b):AV.zg h l=l:=by
 cases l with
 |nil=>rfl
 |cons x r=>simp only[AV.zg];rw[QG x fun b hb=>ht b (by simp[AV.zd,hb]),vz r fun b hb=>ht b (by simp[AV.zd,hb])]
end
theorem K5 {h:Nat->Option Nat} {b:Nat} (hb:self h b=true):h b=some b:=by
 unfold self at hb;cases hh:h b with
 |none=>simp[hh] at hb
 |some i=>simp only[hh,beq_iff_eq] at hb;rw[hb]
theorem T5 {h:Nat->Option Nat} {v:AV} (hv:v.fixed h=true):v.zj h=v :=
 QG v fun b hb=>K5 (List.all_eq_true.1 hv b hb)
mutual
theorem TO (v:AV) {K K':AV->Prop} (h:∀x,K x->K' x) (hk:Ky v K):Ky v K':=by
 cases v with
 |int k n=>exact fun n=>h _ (hk n)
 |bool b=>exact fun n=>h _ (hk n)
 |str s=>exact fun n=>h _ (hk n)
 |slc m es=>exact fun n=>h _ (hk n)
 |lit k n=>exact h _ hk
 |tup vs=>exact fun n=>h _ (hk n)
 |agg cs=>exact ko cs (fun _ hx=>h _ hx) hk
 |eptr cs o=>exact ko cs (fun _ hx=>h _ hx) hk
 |iface t v=>exact TO v (fun _ hx=>h _ hx) hk
 |undef=>exact fun v ht=>h _ (hk v ht)
 |nilif=>exact⟨h _ hk.1,fun v r=>h _ (hk.2 v r)⟩
 |_=>trivial
theorem ko (l:List AV) {K K':List AV->Prop} (h:∀x,K x->K' x) (hk:Y5 l K):Y5 l K':=by
 cases l with
 |nil=>exact h _ hk
 |cons x r=>exact TO x (fun v hv=>ko r (fun l hl=>h _ hl) hv) hk
end
mutual
theorem QW (v x:AV) {K:AV->Prop} (hf:vq v x=true) (hk:Ky v K):K x:=by
 cases v with
 |int k n =>
  cases x<;>simp only[vq,decide_eq_true_eq,Bool.false_eq_true] at hf;subst hf;exact hk _
 |lit k n =>
  cases x<;>simp only[vq,decide_eq_true_eq,Bool.false_eq_true] at hf;obtain ⟨rfl,rfl⟩:=hf;exact hk
 |bool b=>cases x<;>simp only[vq,Bool.false_eq_true] at hf;exact hk _
 |str s=>cases x<;>simp only[vq,Bool.false_eq_true] at hf;exact hk _
 |slc m es =>
  cases x with
  |slc m' es' =>
   have:m'=3:=by
    unfold vq at hf;split at hf<;>simp_all
   subst this;exact hk _
  |_=>simp[vq] at hf
 |tup vs=>cases x<;>simp only[vq,Bool.false_eq_true] at hf;exact hk _
 |agg cs =>
  cases x<;>simp only[vq,Bool.false_eq_true] at hf;exact wx cs _ hf hk
 |eptr cs o =>
  cases x<;>simp only[vq,Bool.false_eq_true,Bool.and_eq_true,decide_eq_true_eq] at hf;obtain ⟨rfl,hf⟩:=hf;exact wx (K:=fun l=>K (.eptr l _)) cs _ hf hk
 |iface t v =>
  cases x<;>simp only[vq,Bool.false_eq_true,Bool.and_eq_true,decide_eq_true_eq] at hf;obtain ⟨rfl,hf⟩:=hf;exact QW (K:=fun y=>K (.iface _ y)) v _ hf hk
 |undef=>exact hk x (by simpa[vq] using hf)
 |nilif =>
  cases x with
  |slc m es =>
   cases es with
   |nil =>
    cases m with
    |zero=>exact hk.1
    |succ m=>simp[vq] at hf
   |cons v r =>
    have:m=3:=by
     unfold vq at hf;split at hf<;>simp_all
    subst this;exact hk.2 v r
  |_=>simp[vq] at hf
 |_=>simp[vq] at hf
theorem wx (l xs:List AV) {K:List AV->Prop} (hf:qZ l xs=true) (hk:Y5 l K):K xs:=by
 cases l with
 |nil =>
  cases xs with
  |nil=>exact hk
  |cons _ _=>simp[qZ] at hf
 |cons x r =>
  cases xs with
  |nil=>simp[qZ] at hf
  |cons y s =>
   simp only[qZ,Bool.and_eq_true] at hf;exact wx r s hf.2 (QW x y hf.1 hk)
end
theorem MR:∀(m:Nat) {K K':List (List AV)->Prop},(∀x,K x->K' x)->Kw m K->Kw m K':=by
 intro m;induction m with
 |zero=>intro K K' h hk;exact h _ hk
 |succ m ih=>intro K K' h hk es;exact ih (fun l hl=>h _ hl) (hk es)
theorem Kx:∀(m:Nat) {K:List (List AV)->Prop} (ls:List (List AV)),ls.length=m->Kw m K->K ls:=by
 intro m;induction m with
 |zero=>intro K ls hl hk;have:ls=[]:=List.length_eq_zero_iff.1 hl;subst this;exact hk
 |succ m ih =>
  intro K ls hl hk;cases ls with
  |nil=>simp at hl
  |cons x r=>exact ih r (by simpa using hl) (hk x)
theorem He (sk v:AV):Jd sk v=v.norm\/Jd sk v=v:=by
 unfold Jd;split
 ·exact .inr rfl
 ·exact .inl rfl
theorem Ql {Z:St}:∀ {l:List (Nat × AV)} {gs:List AV},WU Z l=some gs->qZ (l.map (·.2)) gs=true/\∀q∈(l.map (·.1)).zip gs,(q.2=(Z.sl.getD q.1 .undef).norm\/q.2=Z.sl.getD q.1 .undef)/\(Z.sl.getD q.1 .undef).tree=true:=by
 intro l;induction l with
 |nil=>intro gs h;cases h;exact⟨rfl,by simp⟩
 |cons x r ih =>
  obtain ⟨t,sk⟩:=x;intro gs h;simp only[WU] at h;split at h
  ·rename_i hc;simp only[Bool.and_eq_true] at hc;obtain ⟨l,hl,rfl⟩:=Option.map_eq_some_iff.1 h;obtain ⟨h1,h2⟩:=ih hl;refine⟨by simp only[List.map_cons,qZ,hc.2,h1,Bool.and_self],fun q hq=>?_⟩;simp only[List.map_cons,List.zip_cons_cons,List.mem_cons] at hq;rcases hq with rfl | hq
   ·exact⟨He ..,hc.1⟩
   ·exact h2 q hq
  ·cases h
theorem Tr {Z0 Z:St}:∀ {l:List (Nat × AV)} {bs:List AV},Xf Z0 Z l=some bs->qZ (l.map (·.2)) bs=true /\
  ∀q∈l.zip bs,∃x y,Z0.bx.getD q.1.1 none=some x/\Z.bx.getD q.1.1 none=some y/\x.arr=y.arr/\(x.arr=true\/AV.zi y.cs=true)/\q.2=.agg (AV.za y.cs):=by
 intro l;induction l with
 |nil=>intro bs h;cases h;exact⟨rfl,by simp⟩
 |cons x r ih =>
  obtain ⟨b,sk⟩:=x;intro bs h;simp only[Xf] at h;split at h
  ·rename_i x y hx hy;split at h
   ·rename_i hc;simp only[Bool.and_eq_true,Bool.or_eq_true,beq_iff_eq] at hc;obtain ⟨l,hl,rfl⟩:=Option.map_eq_some_iff.1 h;obtain ⟨h1,h2⟩:=ih hl;refine⟨by simp only[List.map_cons,qZ,hc.2,h1,Bool.and_self],fun q hq=>?_⟩;simp only[List.zip_cons_cons,List.mem_cons] at hq;rcases hq with rfl | hq
    ·exact⟨x,y,hx,hy,hc.1.1,hc.1.2,rfl⟩
    ·exact h2 q hq
   ·cases h
  ·cases h
def Kc (P:Program) (Z:St) (q:Nat × TypeId) (es:List AV):Prop :=
 ((Z.sl.getD q.1 .undef=.slc 0 []\/Z.sl.getD q.1 .undef=.slc 2 [])/\es=[]) \/
 ∃b x,Z.sl.getD q.1 .undef=.aslc b 0 es.length (P.cellsOf q.2) (yp P q.2)/\Z.bx.getD b none=some x/\x.arr=true/\es.flatMap AV.cells=x.cs
theorem S2 {P:Program} {Z:St}:∀ {l:List (Nat × TypeId)} {C:List (List AV)->Prop},uX P Z l C->∃ls,C ls/\ls.length=l.length/\∀q∈l.zip ls,Kc P Z q.1 q.2:=by
 intro l;induction l with
 |nil=>intro C h;exact⟨[],h,rfl,by simp⟩
 |cons x r ih =>
  obtain ⟨t,e⟩:=x;intro C h;have fin:∀es,Kc P Z (t,e) es->uX P Z r (fun l=>C (es::l))->∃ls,C ls/\ls.length=r.length+1/\∀q∈((t,e)::r).zip ls,Kc P Z q.1 q.2:=by
   intro es h1 h2;obtain ⟨ls,h3,h4,h5⟩:=ih h2;refine⟨es::ls,h3,by simp[h4],fun q hq=>?_⟩;simp only[List.zip_cons_cons,List.mem_cons] at hq;rcases hq with rfl | hq
   ·exact h1
   ·exact h5 q hq
  simp only[uX] at h;split at h
  ·rename_i hh;exact fin [] (.inl ⟨.inl hh,rfl⟩) h
  ·rename_i hh;exact fin [] (.inl ⟨.inr hh,rfl⟩) h
  ·rename_i b off len esz ag hh;split at h
   ·rename_i x hx;split at h
    ·rename_i hc;simp only[Bool.and_eq_true,beq_iff_eq] at hc;obtain ⟨⟨⟨ha,rfl⟩,rfl⟩,rfl⟩:=hc;obtain ⟨es,⟨h1,h2⟩,h3⟩:=h;subst h1;exact fin es (.inr ⟨b,x,hh,hx,ha,h2⟩) h3
    ·exact h.elim
   ·exact h.elim
  ·exact h.elim
theorem PI {entry:Bool} {h:Nat->Option Nat} {skip:Nat->Bool} {Z:St} {C:Prop}:∀ {l:List (Option Bx)} {b0:Nat},uL entry h skip Z b0 l C->C/\∀(i:Nat) (x:Bx),l[i]? = some (some x)->skip (b0+i)=false ->
  ∃y,Z.bx.getD (b0+i) none=some y/\y.arr=x.arr/\h (b0+i)=some (b0+i)/\(x.arr=true\/∀v∈x.cs,v.fixed h=true)/\(entry=false->y.cs=x.cs):=by
 intro l;induction l with
 |nil=>intro b0 hk;exact⟨hk,fun i x hi=>by simp at hi⟩
 |cons o r ih =>
  intro b0 hk;have tail:uL entry h skip Z (b0+1) r C->(∀x,o=some x->skip b0=false ->
    ∃y,Z.bx.getD b0 none=some y/\y.arr=x.arr/\h b0=some b0/\(x.arr=true\/∀v∈x.cs,v.fixed h=true)/\(entry=false->y.cs=x.cs))->C/\∀(i:Nat) (x:Bx),(o::r)[i]? = some (some x)->skip (b0+i)=false ->
    ∃y,Z.bx.getD (b0+i) none=some y/\y.arr=x.arr/\h (b0+i)=some (b0+i)/\(x.arr=true\/∀v∈x.cs,v.fixed h=true)/\(entry=false->y.cs=x.cs):=by
   intro h1 h2;obtain ⟨h3,h4⟩:=ih h1;refine⟨h3,fun i x hi hs=>?_⟩;cases i with
   |zero=>exact h2 x (by simpa using hi) hs
   |succ i =>
    have:b0+(i+1)=b0+1+i:=by omega
    rw[this] at hs ⊢;exact h4 i x (by simpa using hi) hs
  cases o with
  |none=>exact tail hk (fun x hx=>by cases hx)
  |some x =>
   simp only[uL] at hk;split at hk
   ·rename_i hs;exact tail hk (fun y hy hs'=>by rw[hs] at hs';cases hs')
   ·split at hk
    ·rename_i y hy;by_cases hc:(y.arr == x.arr && self h b0 && (x.arr || x.cs.all (AV.fixed h)))=true
     ·rw[if_pos hc] at hk;simp only[Bool.and_eq_true,Bool.or_eq_true,beq_iff_eq] at hc;have hfx:x.arr=true\/∀v∈x.cs,v.fixed h=true:=by
       rcases hc.2 with hc | hc
       ·exact .inl hc
       ·exact .inr (List.all_eq_true.1 hc)
      split at hk
      ·rename_i he;exact tail hk (fun x' hx' _=>by cases hx';exact⟨y,hy,hc.1.1,K5 hc.1.2,hfx,fun h=>by rw[he] at h;cases h⟩)
      ·exact tail hk.2 (fun x' hx' _=>by cases hx';exact⟨y,hy,hc.1.1,K5 hc.1.2,hfx,fun _=>hk.1⟩)
     ·rw[if_neg hc] at hk;exact hk.elim
    ·exact hk.elim
theorem wO {α β γ:Type} {f:α->β->γ} {l:List α} {m:List β} {c:γ} (h:c∈List.zipWith f l m):∃q∈l.zip m,c=f q.1 q.2:=by
 induction l generalizing m with
 |nil=>simp at h
 |cons x r ih =>
  cases m with
  |nil=>simp at h
  |cons y s =>
   simp only[List.zipWith_cons_cons,List.mem_cons] at h;rcases h with rfl | h
   ·exact⟨(x,y),by simp,rfl⟩
   ·obtain ⟨q,h1,h2⟩:=ih h;exact⟨q,by simp[h1],h2⟩
theorem wH {α:Type} {f:Nat->α->α} {l:List α} {d:α} {t:Nat}:(WG l f).getD t d=if t<l.length then f t (l.getD t d) else d:=by
 simp only[List.getD,wG];by_cases h:t<l.length
 ·simp[h]
 ·simp[h]
theorem JB {cs:List AV} (h:cs.length≠1):qh cs=none:=by
 match cs with
 |[]=>rfl
 |[x]=>exact absurd rfl h
 |x::y::r=>rfl
theorem PN {h:Nat->Option Nat} {fr:Nat->Prop} {c v:AV} (hr:SM fr (c.zj h) v) (hm:kV c=none):kV v=none:=by
 rcases hr with rfl | rfl | rfl | ⟨_,b,esz,ag,rfl,_⟩
 ·rfl
 ·rw[X6];exact hm
 ·rw[U3,X6];exact hm
 ·rfl
def OD (h:Nat->Option Nat) (n:Nat) (Z Z':St):Prop :=
 ((∀b i,h b=some i->i<n->b=i)/\True/\(∀b c i,h b=some i->h c=some i->b=c) /\
  (∀t,SM (LN h n) ((Z.sl.getD t .undef).zj h) (Z'.sl.getD t .undef)) /\
  (∀b' x',Z'.bx.getD b' none=some x'->(∃b x,h b=some b'/\Z.bx.getD b none=some x/\x'.arr=x.arr/\x'.cs.length=x.cs.length/\qh x'.cs=qh x.cs /\
   ∀j,if x.arr then ND (x.cs.getD j .undef) (x'.cs.getD j .undef) else SM (LN h n) ((x.cs.getD j .undef).zj h) (x'.cs.getD j .undef))\/(x'.cs=[]/\n<=b'/\∀b,h b≠some b'))) /\
 Z'.sl.length=Z.sl.length
theorem OD.yc {h:Nat->Option Nat} {n:Nat} {Z Z':St} (hw:OD h n Z Z'):x6 n Z Z':=⟨⟨h,hw.1⟩,hw.2⟩
theorem YC {bx:List (Option Bx)} {b off:Nat} {v:AV} {c:Nat}:(XH bx b off v).getD c none=if c=b then (bx.getD b none).map (fun x=>{ x with cs:=x.cs.set off v }) else bx.getD c none:=by
 unfold XH;cases hb:bx.getD b none with
 |none =>
  simp only[Option.map_none];split
  ·rename_i hc;rw[hc,hb]
  ·rfl
 |some x =>
  have hlt:b<bx.length:=by
   rcases Nat.lt_or_ge b bx.length with h | h
   ·exact h
   ·simp[List.getD,List.getElem?_eq_none h] at hb
  simp only[Option.map_some,List.getD];split
  ·rename_i hc;rw[hc];simp[hlt]
  ·rename_i hc;rw[List.getElem?_set_ne (Ne.symm hc)]
theorem KV {h:Nat->Option Nat} {n:Nat} {q:Nat × Nat × TypeId} {Z τ:St} {x:Bx} (hx:Z.bx.getD q.1 none=some x) (ha:x.arr=false) (hm:qh x.cs=none) (ho:q.2.1<x.cs.length) (hq:h q.1=some q.1) (hw:OD h n (uN q Z) τ):OD h n Z (Ys q τ):=by
 obtain ⟨⟨w1,w2,w3,w4,w5⟩,w6⟩:=hw;have hl:τ.sl.length=Z.sl.length+1:=by rw[w6];simp[uN]
 have hdl:(Ys q τ).sl.length=Z.sl.length:=by simp[Ys,hl]
 have hsl:∀t,t<Z.sl.length->(Ys q τ).sl.getD t .undef=τ.sl.getD t .undef:=by
  intro t ht;simp only[Ys,List.getD,List.getElem?_take];rw[if_pos (by omega)]
 have hlift:∀t,(uN q Z).sl.getD t .undef=if t<Z.sl.length then Z.sl.getD t .undef else if t=Z.sl.length then XU Z q.1 q.2.1 else .undef:=by
  intro t;simp only[uN,List.getD,List.getElem?_append];split
  ·rfl
  ·rename_i h1;split
   ·rename_i h2;rw[h2];simp
   ·rename_i h2;rw[List.getElem?_eq_none (by simp;omega)];rfl
 refine⟨⟨w1,w2,w3,fun t=>?_,fun b' x' hx'=>?_⟩,hdl⟩
 ·rcases Nat.lt_or_ge t Z.sl.length with ht | ht
  ·have:=w4 t;rw[hlift,if_pos ht] at this;rw[hsl t ht];exact this
  ·have e:(Ys q τ).sl.getD t .undef=.undef:=yO (by rw[hdl];exact ht);rw[e];exact .inl rfl
 ·simp only[Ys] at hx';rw[YC] at hx';have hlb:∀b,(uN q Z).bx.getD b none=if b=q.1 then (Z.bx.getD q.1 none).map (fun x=>{ x with cs:=x.cs.set q.2.1 .undef }) else Z.bx.getD b none:=fun b=>YC
  split at hx'
  ·rename_i hb;subst hb;obtain ⟨y,hy,rfl⟩:=Option.map_eq_some_iff.1 hx';rcases w5 q.1 y hy with ⟨b,z,g1,g2,g3,g4,_,g5⟩ | ⟨_,_,g⟩
   ·have hbq:b=q.1:=w3 b q.1 q.1 g1 hq;subst hbq;rw[hlb,if_pos rfl,hx] at g2;cases g2;have hmv:qh (y.cs.set q.2.1 (τ.sl.getD (τ.sl.length-1) .undef))=qh x.cs:=by
     rw[hm];simp only[List.length_set] at g4;by_cases hl1:x.cs.length=1
     ·have h0:q.2.1=0:=by omega
      have hr:=w4 (τ.sl.length-1);rw[hlift,if_neg (by omega),if_pos (by omega)] at hr;have e2:XU Z q.1 q.2.1=x.cs.getD q.2.1 .undef:=by unfold XU;rw[hx]
      rw[e2,h0] at hr;match hxc:x.cs,hl1 with
      |[c],_ =>
       rw[hxc] at hr hm;match hyc:y.cs,(show y.cs.length=1 by rw[g4,hxc];rfl) with
       |[d],_ =>
        rw[h0];show kV _=none;exact PN hr hm
     ·exact JB (by rw[List.length_set,g4];exact hl1)
    refine .inl ⟨q.1,x,hq,hx,g3,by simpa using g4,hmv,fun j=>?_⟩;simp only[ha,Bool.false_eq_true,if_false] at g5 ⊢;simp only[List.length_set] at g4;by_cases hj:j=q.2.1
    ·subst hj;have e1:(y.cs.set q.2.1 (τ.sl.getD (τ.sl.length-1) .undef)).getD q.2.1 .undef=τ.sl.getD (τ.sl.length-1) .undef:=by
      simp only[List.getD,List.getElem?_set_self (by omega:q.2.1<y.cs.length),Option.getD_some]
     rw[e1];have:=w4 (τ.sl.length-1);rw[hlift,if_neg (by omega),if_pos (by omega)] at this;have e2:XU Z q.1 q.2.1=x.cs.getD q.2.1 .undef:=by unfold XU;rw[hx]
     rw[e2] at this;exact this
    ·have e1:(y.cs.set q.2.1 (τ.sl.getD (τ.sl.length-1) .undef)).getD j .undef=y.cs.getD j .undef:=by
      simp only[List.getD,List.getElem?_set_ne (Ne.symm hj)]
     rw[e1];have:=g5 j;have e2:(x.cs.set q.2.1 .undef).getD j .undef=x.cs.getD j .undef:=by
      simp only[List.getD,List.getElem?_set_ne (Ne.symm hj)]
     rw[e2] at this;exact this
   ·exact absurd hq (g q.1)
  ·rename_i hb;rcases w5 b' x' hx' with ⟨b,z,g1,g2,g3,g4,g5⟩ | g
   ·have hbq:b≠q.1:=by rintro rfl;rw[hq] at g1;exact hb (Option.some.inj g1).symm
    rw[hlb,if_neg hbq] at g2;exact .inl ⟨b,z,g1,g2,g3,g4,g5⟩
   ·exact .inr g
theorem KX {h:Nat->Option Nat} {n:Nat}:∀(cap:List (Nat × Nat × TypeId)) {Z τ:St},Mh h cap Z=true->OD h n (j5 cap Z) τ->OD h n Z (wY cap τ):=by
 intro cap;induction cap with
 |nil=>intro Z τ _ hw;exact hw
 |cons q r ih =>
  intro Z τ hc hw;simp only[Mh,Bool.and_eq_true] at hc;obtain ⟨⟨h1,h2⟩,h3⟩:=hc;split at h1
  ·rename_i x hx;simp only[Bool.and_eq_true,Bool.not_eq_true',decide_eq_true_eq] at h1;exact KV hx h1.1.1 (by simpa using h1.1.2) h1.2 (K5 h2) (ih h3 hw)
  ·cases h1
theorem UY:∀(cap:List (Nat × Nat × TypeId)) (Z:St),(j5 cap Z).sl.length=Z.sl.length+cap.length/\∀t,t<Z.sl.length->(j5 cap Z).sl.getD t .undef=Z.sl.getD t .undef:=by
 intro cap;induction cap with
 |nil=>intro Z;exact⟨rfl,fun _ _=>rfl⟩
 |cons q r ih =>
  intro Z;obtain ⟨h1,h2⟩:=ih (uN q Z);have hl:(uN q Z).sl.length=Z.sl.length+1:=by simp[uN]
  refine⟨by simp only[j5,h1,hl,List.length_cons];omega,fun t ht=>?_⟩;simp only[j5];rw[h2 t (by omega)];simp only[uN,List.getD,List.getElem?_append,if_pos ht]
theorem KW:∀(cap:List (Nat × Nat × TypeId)) (τ:St),cap.length<=τ.sl.length->(wY cap τ).sl.length=τ.sl.length-cap.length/\∀t,t<τ.sl.length-cap.length->(wY cap τ).sl.getD t .undef=τ.sl.getD t .undef:=by
 intro cap;induction cap with
 |nil=>intro τ _;exact⟨rfl,fun _ _=>rfl⟩
 |cons q r ih =>
  intro τ hl;simp only[List.length_cons] at hl;obtain ⟨h1,h2⟩:=ih τ (by omega);refine⟨by simp only[wY,Ys,List.length_take,h1,List.length_cons];omega,fun t ht=>?_⟩;simp only[List.length_cons] at ht;have:=h2 t (by omega);simp only[wY,Ys,List.getD,List.getElem?_take];rw[if_pos (by omega)];exact this
section
variable {P:Program} {n:Nat} {keep D:List Nat} {p:Pat} {Z0 Z:St}
theorem Oo {entry:Bool} {C:List AV->Prop} (hlen:Z.sl.length=Z0.sl.length) (hkept:∀t,t∈keep->t∉D->Z.sl.getD t .undef=Z0.sl.getD t .undef) (hen:entry=true->Z0=Z)
  (hk:NS P n keep D p entry Z0 Z C):∃gs ls bs,C (xT gs ls bs)/\qZ (p.gen.map (·.2)) gs=true/\ls.length=p.app.length/\qZ (p.bgen.map (·.2)) bs=true/\OD (p.zJ n Z) n Z (q6 P n keep D p Z0 gs ls bs):=by
 unfold NS at hk;split at hk
 case isFalse=>exact hk.elim
 rename_i hok;obtain ⟨hk,hkb⟩:=PI hk;split at hk
 case h_2=>exact hk.elim
 rename_i gs bs hgs hbs;obtain ⟨ls,hC,hll,hap⟩:=S2 hk;obtain ⟨hfg,hg⟩:=Ql hgs;obtain ⟨hfb,hb⟩:=Tr hbs;unfold Jj at hok;simp only[Bool.and_eq_true,decide_eq_true_eq,List.all_eq_true] at hok;obtain ⟨⟨⟨hnd,hsd⟩,hbg⟩,hfx⟩:=hok;have key:∀b i,p.zJ n Z b=some i->((b,i)∈xw n p Z/\∃q∈p.app,i=n+q.1/\∃off len esz ag,Z.sl.getD q.1 .undef=.aslc b off len esz ag)\/(b=i/\∀q∈p.app,i≠n+q.1):=by
  intro b i hb;unfold Pat.zJ Nc at hb;split at hb
  ·rename_i j hj;cases hb;have hm:=ja hj;refine .inl ⟨hm,?_⟩;obtain ⟨q,hq1,hq⟩:=List.mem_filterMap.1 hm;refine⟨q,hq1,?_⟩;split at hq
   ·rename_i hh;cases hq;exact⟨rfl,_,_,_,_,hh⟩
   ·cases hq
  ·split at hb
   ·cases hb
   ·rename_i hn;cases hb;refine .inr ⟨rfl,fun q hq h=>hn ?_⟩;simp only[List.contains_iff_mem,List.mem_map];exact⟨q,hq,h.symm⟩
 refine⟨gs,ls,bs,hC,hfg,hll,hfb,⟨⟨?_,trivial,?_,?_,?_⟩,?_⟩⟩
 ·intro b i hb hin;unfold Pat.zJ Nc at hb;split at hb
  ·rename_i j hj;cases hb;have hm:=ja hj;exfalso;obtain ⟨q,_,hq⟩:=List.mem_filterMap.1 hm;split at hq
   ·cases hq;omega
   ·cases hq
  ·split at hb
   ·cases hb
   ·cases hb;rfl
 ·intro b c i hb hc;have key:∀b i,p.zJ n Z b=some i->((b,i)∈xw n p Z/\∃q∈p.app,i=n+q.1/\∃off len esz ag,Z.sl.getD q.1 .undef=.aslc b off len esz ag)\/(b=i/\∀q∈p.app,i≠n+q.1):=by
   intro b i hb;unfold Pat.zJ Nc at hb;split at hb
   ·rename_i j hj;cases hb;have hm:=ja hj;refine .inl ⟨hm,?_⟩;obtain ⟨q,hq1,hq⟩:=List.mem_filterMap.1 hm;refine⟨q,hq1,?_⟩;split at hq
    ·rename_i hh;cases hq;exact⟨rfl,_,_,_,_,hh⟩
    ·cases hq
   ·split at hb
    ·cases hb
    ·rename_i hn;cases hb;refine .inr ⟨rfl,fun q hq h=>hn ?_⟩;simp only[List.contains_iff_mem,List.mem_map];exact⟨q,hq,h.symm⟩
  rcases key b i hb with ⟨_,q,hq,rfl,_,_,_,_,h1⟩ | ⟨rfl,h1⟩
  ·rcases key c _ hc with ⟨_,q',hq',h2,_,_,_,_,h3⟩ | ⟨_,h3⟩
   ·have:q.1=q'.1:=by omega
    rw[this,h3] at h1;cases h1;rfl
   ·exact absurd rfl (h3 q hq)
  ·rcases key c _ hc with ⟨_,q',hq',h2,_,_,_,_,h3⟩ | ⟨h2,h3⟩
   ·exact absurd h2 (h1 q' hq')
   ·exact h2.symm
 ·intro t;simp only[q6];rw[wH];split
  case isFalse=>exact .inl rfl
  split
  case isFalse=>exact .inl rfl
  rename_i hkt;simp only[List.contains_iff_mem] at hkt;split
  ·rename_i v hv;rcases List.mem_append.1 (ja hv) with hv | hv
   ·obtain ⟨h1,h2⟩:=hg _ hv;simp only at h1 h2;rw[XG _ h2];rcases h1 with h1 | h1
    ·rw[h1];exact .inr (.inr (.inl rfl))
    ·rw[h1];exact .inr (.inl rfl)
   ·obtain ⟨q,hq,he⟩:=wO hv;simp only[Prod.mk.injEq] at he;obtain ⟨rfl,rfl⟩:=he;rcases hap q hq with ⟨h1,h2⟩ | ⟨b,x,h1,h2,h3,h4⟩
    ·rw[h2];refine .inr (.inr (.inr ⟨?_,_,_,_,rfl,Nat.le_add_right _ _,fun c hc=>?_⟩))
     ·rcases h1 with h1 | h1<;>rw[h1]
      ·exact .inl rfl
      ·exact .inr rfl
     ·have hqa:=(List.of_mem_zip hq).1;rcases key c _ hc with ⟨_,q',hq',e1,_,_,_,_,h3⟩ | ⟨_,h3⟩
      ·have e2:q'.1=q.1.1:=by omega
       rw[e2] at h3;rcases h1 with h1 | h1<;>· rw[h1] at h3;cases h3
      ·exact h3 q.1 hqa rfl
    ·rw[h1];refine .inr (.inl ?_);have hin:(b,n+q.1.1)∈xw n p Z:=List.mem_filterMap.2 ⟨q.1,(List.of_mem_zip hq).1,by rw[h1]⟩;have:p.zJ n Z b=some (n+q.1.1):=by
      unfold Pat.zJ Nc;cases hl:(xw n p Z).lookup b with
      |none=>exact absurd rfl (uO hl _ hin)
      |some j =>
       have hm:=ja hl;rw[SG hsd hm hin]
     simp only[AV.zj,this]
  ·split
   ·exact .inl rfl
   ·rename_i hD;simp only[List.contains_iff_mem] at hD;have h1:=hkept t hkt hD;have h2:=hfx t hkt;simp only[Bool.or_eq_true,List.contains_iff_mem,hD,false_or] at h2;rw[<- h1] at h2;rw[T5 h2,h1];exact .inr (.inl rfl)
 ·intro b' x' hx';simp only[q6] at hx';rw[wH] at hx';split at hx'
  case isFalse=>cases hx'
  rename_i hblt;split at hx'
  ·rename_i y hy;cases hx';rcases List.mem_append.1 (ja hy) with hv | hv
   ·obtain ⟨q,hq,he⟩:=wO hv;simp only[Prod.mk.injEq] at he;obtain ⟨rfl,rfl⟩:=he;rcases hap q hq with ⟨h1,h2⟩ | ⟨b,x,h1,h2,h3,h4⟩
    ·refine .inr ⟨by simp[h2],by omega,fun b hb=>?_⟩;unfold Pat.zJ Nc at hb;split at hb
     ·rename_i j hj;cases hb;obtain ⟨q',hq',he⟩:=List.mem_filterMap.1 (ja hj);split at he
      ·rename_i hh;simp only[Option.some.injEq,Prod.mk.injEq] at he;have:q'.1=q.1.1:=by omega
       rw[this] at hh;rcases h1 with h1 | h1<;>(rw[h1] at hh;cases hh)
      ·cases he
     ·split at hb
      ·cases hb
      ·rename_i hn;cases hb;exact hn (by simp only[List.contains_iff_mem,List.mem_map];exact⟨q.1,(List.of_mem_zip hq).1,rfl⟩)
    ·have hin:(b,n+q.1.1)∈xw n p Z:=List.mem_filterMap.2 ⟨q.1,(List.of_mem_zip hq).1,by rw[h1]⟩;have hhb:p.zJ n Z b=some (n+q.1.1):=by
      unfold Pat.zJ Nc;cases hl:(xw n p Z).lookup b with
      |none=>exact absurd rfl (uO hl _ hin)
      |some j =>
       have hm:=ja hl;rw[SG hsd hm hin]
     refine .inl ⟨b,x,hhb,h2,h3.symm,by rw[h4],by rw[h4],fun j=>?_⟩;rw[if_pos h3,h4];exact .inr (.inl rfl)
   ·obtain ⟨q,hq,he⟩:=wO hv;simp only[Prod.mk.injEq] at he;obtain ⟨rfl,rfl⟩:=he;obtain ⟨x,y,h1,h2,h3,h4,h5⟩:=hb q hq;rw[h1,h5];have hhb:=K5 (hbg q.1 (List.of_mem_zip hq).1);refine .inl ⟨q.1.1,y,hhb,h2,h3,by simp[AV.cells,yD],by simp only[AV.cells];exact xo _,fun j=>?_⟩;simp only[AV.cells,yU];split
    ·exact .inr (.inr rfl)
    ·rename_i ha;have:AV.zi y.cs=true:=by
      rcases h4 with h4 | h4
      ·rw[h3] at h4;exact absurd h4 ha
      ·exact h4
     rw[XG _ (jd this j)];exact .inr (.inr (.inl rfl))
  ·rename_i hnone;split at hx'
   ·cases hx'
   ·rename_i hns;have hskip:((p.bgen.map (·.1)).contains b' || (p.app.map fun q=>n+q.1).contains b' || (xw n p Z0).any (fun q=>q.1 == b'))=false:=by
     rw[Bool.or_eq_false_iff,Bool.or_eq_false_iff];have hno:=uO hnone;refine⟨⟨?_,?_⟩,by rw[<- Bool.not_eq_true];exact hns⟩
     ·rw[Bool.eq_false_iff];intro hc;simp only[List.contains_iff_mem,List.mem_map] at hc;obtain ⟨q,hq,rfl⟩:=hc;have hbl:p.bgen.length=bs.length:=by simpa using uG _ _ hfb
      obtain ⟨i,hi,hqi⟩:=List.getElem_of_mem hq;unfold Ji at hno;have:=hno _ (List.mem_append_right _ (List.getElem_mem (n:=i) (by simp only[List.length_zipWith];omega)));simp only[List.getElem_zipWith,hqi,ne_eq,not_true_eq_false] at this
     ·rw[Bool.eq_false_iff];intro hc;simp only[List.contains_iff_mem,List.mem_map] at hc;obtain ⟨q,hq,rfl⟩:=hc;obtain ⟨i,hi,hqi⟩:=List.getElem_of_mem hq;refine hno (n+q.1,⟨q.2,true,(ls[i]'(by omega)).flatMap AV.cells⟩) (List.mem_append_left _ ?_) rfl;rw[List.mem_iff_getElem];refine⟨i,by simp;omega,?_⟩;simp only[List.getElem_zipWith,hqi]
    have hl:Z0.bx[b']? = some (some x'):=by
     simp only[List.getD] at hx';rw[List.getElem?_eq_getElem hblt] at hx' ⊢;simpa using hx'
    obtain ⟨y,h1,h2,h3,h4,h5⟩:=hkb b' x' hl (by rw[Nat.zero_add];exact hskip);rw[Nat.zero_add] at h1 h3;have h5:y.cs=x'.cs:=by
     cases entry with
     |false=>exact h5 rfl
     |true =>
      rw[hen rfl,h1] at hx';cases hx';rfl
    refine .inl ⟨b',y,h3,h1,h2.symm,by rw[h5],by rw[h5],fun j=>?_⟩;rw[h5];split
    ·exact .inr (.inl rfl)
    ·rename_i ha;rcases h4 with h4 | h4
     ·rw[h2] at ha;exact absurd h4 ha
     ·rcases Nat.lt_or_ge j x'.cs.length with hj | hj
      ·have:=h4 (x'.cs.getD j .undef) (by simp only[List.getD,List.getElem?_eq_getElem hj,Option.getD_some];exact List.getElem_mem hj);rw[T5 this];exact .inr (.inl rfl)
      ·rw[yO hj];exact .inl rfl
 ·simp only[q6,uP];exact hlen.symm
end
def CD (ctl:Ctl) (c:Code) (t:Nat):Prop:=t∈ctl.dsts c\/t∉ctl.keep
theorem Xn {ctl:Ctl} {a b:Code} {t:Nat}:(t∈ctl.dsts a->t∈uB a++uB b++(ctl.fz.filter fun q=>decide (q.2<1000000000)).map (fun q=>q.2 % 1000000))/\(t∈ctl.dsts b->t∈uB a++uB b++(ctl.fz.filter fun q=>decide (q.2<1000000000)).map (fun q=>q.2 % 1000000)):=by
 simp only[Ctl.dsts,List.mem_append];exact⟨fun h=>h.elim (fun h=>.inl (.inl h)) .inr,fun h=>h.elim (fun h=>.inl (.inr h)) .inr⟩
theorem KN (keep:List Nat) (Z:St):FrD (fun t=>t∉keep) Z (clean keep Z):=by
 refine⟨by simp[clean,uP],fun t ht=>?_⟩;simp only[clean];rw[wH];split
 ·rw[if_pos (by simpa using ht)]
 ·rename_i hl;rw[yO (by omega)]
section
variable {P:Program} {S:Specs} {n:Nat}
theorem Lm {keep D:List Nat} {p:Pat} {Z:St} {gs:List AV} {ls:List (List AV)} {bs:List AV} (hp:xY D p=true) :
  FrD (fun t=>t∈D\/t∉keep) Z (q6 P n keep D p Z gs ls bs):=by
 refine⟨by simp[q6,uP],fun t ht=>?_⟩;simp only[not_or,Classical.not_not] at ht;simp only[q6];rw[wH];split
 case isFalse=>rename_i hl;rw[yO (by omega)]
 rw[if_pos (by simpa using ht.2)];split
 ·rename_i v hv;exfalso;unfold xY at hp;rw[List.all_eq_true] at hp;have:t∈p.gen.map (·.1)++p.app.map (·.1):=by
   rcases List.mem_append.1 (ja hv) with hv | hv
   ·exact List.mem_append_left _ (List.of_mem_zip hv).1
   ·obtain ⟨q,hq,he⟩:=wO hv;simp only[Prod.mk.injEq] at he;exact List.mem_append_right _ (List.mem_map.2 ⟨q.1,(List.of_mem_zip hq).1,he.1.symm⟩)
  have:=hp t this;simp only[List.contains_iff_mem] at this;exact ht.1 this
 ·rw[if_neg (by simpa using ht.1)]
theorem Nd {keep D:List Nat} {p:Pat} {Z:St} {C C':List AV->St->Prop} (h:∀gs ls bs,C (xT gs ls bs) (q6 P n keep D p Z gs ls bs)->C' (xT gs ls bs) (q6 P n keep D p Z gs ls bs)) (hk:Pw P n keep D p Z C):Pw P n keep D p Z C' :=
 ko _ (fun _ hk=>MR _ (fun _ hk=>ko _ (fun _ hk=>h _ _ _ hk) hk) hk) hk
theorem Ll {keep D:List Nat} {p:Pat} {Z:St} {C:List AV->St->Prop} {gs:List AV} {ls:List (List AV)} {bs:List AV} (h1:qZ (p.gen.map (·.2)) gs=true) (h2:ls.length=p.app.length) (h3:qZ (p.bgen.map (·.2)) bs=true)
  (hk:Pw P n keep D p Z C):C (xT gs ls bs) (q6 P n keep D p Z gs ls bs):=by
 unfold Pw at hk;have h4:=wx _ _ h1 hk;have h5:=Kx _ _ h2 h4;exact wx _ _ h3 h5
theorem L5 {k t:Nat} {Z:St} {K K':St->Prop} (h:∀Z',FrD (fun i=>i=t) Z Z'->K Z'->K' Z') (hk:Tj k t Z K):Tj k t Z K':=by
 unfold Tj at hk ⊢;generalize Z.sl.getD t .undef=v at hk ⊢;cases v with
 |int kd j=>exact⟨hk.1,Ic hk.2 fun m hm=>h _ ⟨by simp,fun i hi=>by simp only[List.getD,List.getElem?_set_ne (Ne.symm hi)]⟩ hm⟩
 |_=>exact h _ (.refl ..) hk
theorem UK {nm:Bool} {off c:Nat} {Z:St} {K K':St->Prop} (h:∀Z',FrD (fun _=>False) Z Z'->K Z'->K' Z') (hk:vQ nm n off c Z K):vQ nm n off c Z K':=by
 have h0:=h _ (.refl ..);unfold vQ at hk ⊢;generalize Z.bx.getD c none=y at hk ⊢;cases y with
 |none=>exact h0 hk
 |some x =>
  dsimp only at hk ⊢;split at hk
  ·rename_i ha;rw[if_pos ha];exact h0 hk
  ·rename_i ha;rw[if_neg ha];generalize x.cs.getD off .undef=v at hk ⊢;cases v with
   |aslc b o len esz ag =>
    dsimp only at hk ⊢;generalize Z.zh b=z at hk ⊢;cases z with
    |none=>exact hk.elim
    |some cs =>
     dsimp only at hk ⊢;split at hk
     ·rename_i hc;rw[if_pos hc];exact uU (fun hk=>U9 (fun es hk=>h ⟨Z.sl,_⟩ ⟨rfl,fun _ _=>rfl⟩ hk) hk) hk
     ·exact hk.elim
   |_=>exact h0 hk
theorem KP {off c:Nat} {Z:St} {K K':St->Prop} (h:∀Z',FrD (fun _=>False) Z Z'->K Z'->K' Z') (hk:TZ off c Z K):TZ off c Z K':=by
 have h0:=h _ (.refl ..);unfold TZ at hk ⊢;generalize Z.bx.getD c none=y at hk ⊢;cases y with
 |none=>exact h0 hk
 |some x =>
  dsimp only at hk ⊢;split at hk
  ·rename_i ha;rw[if_pos ha];exact h0 hk
  ·rename_i ha;rw[if_neg ha];generalize x.cs.getD off .undef=v at hk ⊢;cases v with
   |slc m es =>
    cases m with
    |zero=>exact h0 hk
    |succ m =>
     obtain ⟨v,r,he,hk⟩:=hk;exact⟨v,r,he,h ⟨Z.sl,_⟩ ⟨rfl,fun _ _=>rfl⟩ hk⟩
   |aslc b o len esz ag =>
    obtain ⟨k,he,hk⟩:=hk;exact⟨k,he,h ⟨Z.sl,_⟩ ⟨rfl,fun _ _=>rfl⟩ hk⟩
   |_=>exact h0 hk
theorem MJ {l:List AV} {t:Nat} {v:AV} (h:l.getD t .undef=v):l.set t v=l:=by
 apply List.ext_getElem?;intro i;rw[List.getElem?_set];split
 ·rename_i hi;subst hi;split
  ·rename_i hl;rw[List.getElem?_eq_getElem hl,<- h];simp[List.getD,hl]
  ·rename_i hl;rw[List.getElem?_eq_none (by omega)]
 ·rfl
theorem PW {t:Nat} {Z:St} {K:St->Prop} (h:Fe t Z K):K Z/\∀K':St->Prop,(K Z->K' Z)->Fe t Z K':=by
 rcases h with ⟨h1,h2⟩ | ⟨v,r,h1,h2⟩
 ·have e:({ Z with sl:=Z.sl.set t (.slc 0 []) }:St)=Z:=by rw[MJ h1]
  rw[e] at h2;exact⟨h2,fun K' hK=>.inl ⟨h1,by rw[e];exact hK h2⟩⟩
 ·have e:({ Z with sl:=Z.sl.set t (.slc 3 (v::r)) }:St)=Z:=by rw[MJ h1]
  rw[e] at h2;exact⟨h2,fun K' hK=>.inr ⟨v,r,h1,by rw[e];exact hK h2⟩⟩
theorem YR:∀ {ts:List Nat} {Z:St} {K K':St->Prop},(∀Z',FrD (fun i=>∃t∈ts,t<1000000000/\i=t % 1000000) Z Z'->K Z'->K' Z')->qp n ts Z K->qp n ts Z K':=by
 intro ts;induction ts with
 |nil=>intro Z K K' h hk;exact h _ (.refl ..) hk
 |cons t r ih =>
  intro Z K K' h hk;have rest:∀τ,FrD (fun i=>t<1000000000/\i=t % 1000000) Z τ->qp n r τ K->qp n r τ K':=fun τ hf hk =>
   ih (fun υ hf' hk=>h _ ((hf.weak fun i hi=>⟨t,List.mem_cons_self ..,hi⟩).trans (hf'.weak fun i ⟨q,hq,he⟩=>⟨q,List.mem_cons_of_mem _ hq,he⟩)) hk) hk
  simp only[qp] at hk ⊢;split at hk
  ·rename_i h90;rw[if_pos h90];exact(PW hk).2 _ fun hk=>rest _ (.refl ..) hk
  rename_i h90;rw[if_neg h90];split at hk
  ·rename_i hlt;rw[if_pos hlt];exact YQ (fun τ hf hk=>rest τ (hf.weak fun i hi=>⟨by omega,by rw[hi,Nat.mod_eq_of_lt hlt]⟩) hk) hk
  ·rename_i hlt;rw[if_neg hlt];split at hk
   ·rename_i hlt2;rw[if_pos hlt2];split at hk
    ·rename_i h9;rw[if_pos h9];exact YQ (fun τ hf hk=>rest τ (hf.weak fun i hi=>⟨hlt2,hi⟩) hk) hk
    ·rename_i h9;rw[if_neg h9];exact L5 (fun τ hf hk=>rest τ (hf.weak fun i hi=>⟨hlt2,hi⟩) hk) hk
   ·rename_i hlt2;rw[if_neg hlt2];split at hk
    ·rename_i h9;rw[if_pos h9];exact UK (fun τ hf hk=>rest τ (hf.weak fun i hi=>hi.elim) hk) hk
    ·rename_i h9;rw[if_neg h9];split at hk
     ·rename_i h8;rw[if_pos h8];exact KP (fun τ hf hk=>rest τ (hf.weak fun i hi=>hi.elim) hk) hk
     ·rename_i h8;rw[if_neg h8];exact UK (fun τ hf hk=>rest τ (hf.weak fun i hi=>hi.elim) hk) hk
theorem M5 {L:Nat} {cap:List (Nat × Nat × TypeId)} {t:Nat} (h:t∈qQ L cap):L<=t:=by
 unfold qQ at h;obtain ⟨i,_,rfl⟩:=List.mem_map.1 h;omega
theorem JQ {D:List Nat} {p:Pat} {L:Nat} (h:xY D p=true):xY (D++qQ L p.cap) (p.up L)=true:=by
 unfold xY at h ⊢;simp only[List.all_eq_true,List.contains_iff_mem,List.mem_append,Pat.up] at h ⊢;intro t ht;rcases ht with ht | ht
 ·exact .inl (h t (.inl ht))
 ·rw[List.map_append,List.mem_append] at ht;rcases ht with ht | ht
  ·exact .inl (h t (.inr ht))
  ·obtain ⟨q,hq,rfl⟩:=List.mem_map.1 ht;obtain ⟨r,hr,rfl⟩:=wO hq;exact .inr (List.of_mem_zip hr).1
theorem Iv {p:Pat} {L:Nat}:(p.up L).app.length=p.app.length+p.cap.length:=by
 simp[Pat.up,qQ]
theorem kD {keep D:List Nat} {p:Pat} {Z:St} {gs:List AV} {ls:List (List AV)} {bs:List AV} (hp:xY D p=true) :
  FrD (fun t=>t∈D\/t∉keep) Z (wY p.cap (q6 P n (keep++qQ Z.sl.length p.cap) (D++qQ Z.sl.length p.cap) (p.up Z.sl.length) (j5 p.cap Z) gs ls bs)):=by
 obtain ⟨l1,l2⟩:=UY p.cap Z;have hf:=Lm (P:=P) (n:=n) (keep:=keep++qQ Z.sl.length p.cap) (Z:=j5 p.cap Z) (gs:=gs) (ls:=ls) (bs:=bs) (JQ (L:=Z.sl.length) hp);obtain ⟨d1,d2⟩:=KW p.cap (q6 P n (keep++qQ Z.sl.length p.cap) (D++qQ Z.sl.length p.cap) (p.up Z.sl.length) (j5 p.cap Z) gs ls bs) (by rw[hf.1,l1];omega);refine⟨by rw[d1,hf.1,l1];omega,fun t ht=>?_⟩;simp only[not_or,Classical.not_not] at ht;rcases Nat.lt_or_ge t Z.sl.length with hl | hl
 ·rw[d2 t (by rw[hf.1,l1];omega),hf.2 t ?_,l2 t hl];rintro (h | h)
  ·rcases List.mem_append.1 h with h | h
   ·exact ht.1 h
   ·have:=M5 h;omega
  ·exact h (List.mem_append_left _ ht.2)
 ·rw[yO (by rw[d1,hf.1,l1];omega),yO hl]
theorem kr {keep D:List Nat} {p:Pat} {Z:St} {C C':List AV->St->Prop}
  (h:∀gs ls bs,C (xT gs ls bs) (wY p.cap (q6 P n (keep++qQ Z.sl.length p.cap) (D++qQ Z.sl.length p.cap) (p.up Z.sl.length) (j5 p.cap Z) gs ls bs)) ->
   C' (xT gs ls bs) (wY p.cap (q6 P n (keep++qQ Z.sl.length p.cap) (D++qQ Z.sl.length p.cap) (p.up Z.sl.length) (j5 p.cap Z) gs ls bs))) (hk:jV P n keep D p Z C):jV P n keep D p Z C':=by
 unfold jV at *;exact Nd h hk
theorem qI {keep D:List Nat} {p:Pat} {Z0 Z:St} {entry:Bool} {C:List AV->Prop} (hlen:Z.sl.length=Z0.sl.length) (hkept:∀t,t∈keep->t∉D->Z.sl.getD t .undef=Z0.sl.getD t .undef) (hen:entry=true->Z0=Z)
  (hk:qe P n keep D p entry Z0 Z C):∃gs ls bs,C (xT gs ls bs)/\qZ (p.gen.map (·.2)) gs=true/\ls.length=p.app.length+p.cap.length/\qZ (p.bgen.map (·.2)) bs=true /\
   x6 n Z (wY p.cap (q6 P n (keep++qQ Z0.sl.length p.cap) (D++qQ Z0.sl.length p.cap) (p.up Z0.sl.length) (j5 p.cap Z0) gs ls bs)):=by
 unfold qe at hk;dsimp only at hk;split at hk
 case isFalse=>exact hk.elim
 rename_i hc;obtain ⟨a1,a2⟩:=UY p.cap Z;obtain ⟨b1,b2⟩:=UY p.cap Z0;obtain ⟨gs,ls,bs,h1,h2,h3,h4,h5⟩:=Oo (by rw[a1,b1,hlen]) (fun t ht hd=>by
  simp only[List.mem_append,not_or] at ht hd;rcases ht with ht | ht
  ·rcases Nat.lt_or_ge t Z0.sl.length with hl | hl
   ·rw[a2 t (by omega),b2 t hl];exact hkept t ht hd.1
   ·by_cases hl2:t<Z0.sl.length+p.cap.length
    ·exact absurd (List.mem_map.2 ⟨t-Z0.sl.length,List.mem_range.2 (by omega),by omega⟩) hd.2
    ·rw[yO (by rw[a1];omega),yO (by rw[b1];omega)]
  ·exact absurd ht hd.2) (fun he=>by rw[hen he]) hk
 refine⟨gs,ls,bs,h1,h2,?_,h4,(KX p.cap hc h5).yc⟩;rw[h3,Iv]
theorem ki {keep D:List Nat} {p:Pat} {Z:St} {C:List AV->St->Prop} {gs:List AV} {ls:List (List AV)} {bs:List AV} (h1:qZ (p.gen.map (·.2)) gs=true) (h2:ls.length=p.app.length+p.cap.length) (h3:qZ (p.bgen.map (·.2)) bs=true)
  (hk:jV P n keep D p Z C):C (xT gs ls bs) (wY p.cap (q6 P n (keep++qQ Z.sl.length p.cap) (D++qQ Z.sl.length p.cap) (p.up Z.sl.length) (j5 p.cap Z) gs ls bs)) :=
 by
 unfold jV at hk;exact Ll (p:=p.up Z.sl.length) h1 (by rw[h2,Iv]) h3 hk
theorem xz {l:List AV}:∀(ts:List Nat) (t:Nat),t∉ts->(ts.foldl (fun l t=>l.set t .undef) l).getD t .undef=l.getD t .undef:=by
 intro ts;induction ts generalizing l with
 |nil=>intro t _;rfl
 |cons x r ih =>
  intro t ht;simp only[List.mem_cons,not_or] at ht;simp only[List.foldl_cons];rw[ih t ht.2];simp only[List.getD,List.getElem?_set_ne (Ne.symm ht.1)]
theorem wm {l:List AV}:∀(ts:List Nat),(ts.foldl (fun l t=>l.set t .undef) l).length=l.length:=by
 intro ts;induction ts generalizing l with
 |nil=>rfl
 |cons x r ih=>simp only[List.foldl_cons,ih,List.length_set]
theorem Uk {A B:Prop} (h:A->B):∀ {l:List AV},Uj l A->Uj l B:=by
 intro l;induction l with
 |nil=>exact h
 |cons v r ih =>
  intro g;unfold Uj at g ⊢;split
  ·rename_i hv;rw[if_pos hv] at g;exact⟨g.1,ih g.2⟩
  ·rename_i hv;rw[if_neg hv] at g;exact ih g
theorem MQ {A B:Prop} (h:A->B):∀ {l:List (Option Bx)},TN l A->TN l B:=by
 intro l;induction l with
 |nil=>exact h
 |cons v r ih =>
  intro g;cases v with
  |none=>exact ih g
  |some x=>exact Uk ih g
theorem It {h:Hook} {Z:St} {K K':St->Prop} (hK:∀Z',FrD (fun t=>t∈h.outs++h.clob) Z Z'->K Z'->K' Z') (hk:Ol h Z K):Ol h Z K':=by
 unfold Ol at *;split at hk
 case h_2=>exact hk.elim
 split at hk
 case h_2=>exact hk.elim
 split at hk
 case h_2=>exact hk.elim
 split at hk
 ·exact hk.elim
 rename_i hc;rw[if_neg hc];split at hk
 case h_2=>exact hk.elim
 obtain ⟨js,r,h1,h2⟩:=hk;refine⟨js,r,h1,Uk (MQ (Uk fun g=>hK _ ⟨?_,fun t ht=>?_⟩ g)) h2⟩
 ·simp only[xA,wm]
 ·simp only[xA];rw[xz _ _ ht]
theorem Jk {h:Hook} {Z:St} {K K':St->Prop} (hK:∀Z',FrD (fun t=>t∈h.outs++h.clob) Z Z'->K Z'->K' Z') (hk:UP h Z K):UP h Z K':=by
 unfold UP at *;split at hk
 ·exact hk.elim
 rename_i hall;rw[if_neg hall];split at hk
 ·rename_i h1;rw[if_pos h1];exact It hK hk
 rename_i h1;rw[if_neg h1];split at hk
 ·rename_i d _ _ _;split at hk
  ·obtain ⟨L,h1,h2⟩:=hk;refine⟨L,h1,hK _ ⟨?_,fun t ht=>?_⟩ h2⟩
   ·simp only[St.put,xA,List.length_set,wm]
   ·have hd:d∈h.outs++h.clob:=List.mem_append_left _ (by rename_i ho _ _ _ _ _;simp_all);have hne:d≠t:=fun e=>ht (e▸hd)
    simp only[St.put,xA];rw[List.getD_eq_getElem?_getD,List.getElem?_set_ne hne,<- List.getD_eq_getElem?_getD,xz _ _ ht]
  ·exact hk.elim
 ·exact hk.elim
theorem IE (hI:jF S.inl) {ctl:Ctl}:∀(c:Code) (sk:Nat) {n:Nat} {Z:St} {K K':Ex->St->Prop},(∀e Z',FrD (CD ctl c) Z Z'->K e Z'->K' e Z')->qK P S ctl c sk n Z K->qK P S ctl c sk n Z K':=by
 intro c;induction c with
 |skip=>intro sk n Z K K' h hk;exact h _ _ (.refl ..) hk
 |region id ops draw =>
  intro sk n Z K K' h hk;have hc:∀τ Z',FrD (fun i=>∃t∈ctl.zH id,t<1000000000/\i=t % 1000000) Z τ->FrD (Yl (qf ops.toList)) τ Z'->FrD (CD ctl (.region id ops draw)) Z (clean ctl.keep Z'):=fun τ Z' hz hf =>
   ((hz.weak fun t ⟨u,hu,hlt,ht⟩=>.inl (List.mem_append_right _ (by obtain ⟨q,hq,he⟩:=List.mem_map.1 hu;exact List.mem_map.2 ⟨q,List.mem_filter.2 ⟨(List.mem_filter.1 hq).1,by rw[he];exact decide_eq_true hlt⟩,by rw[he,ht]⟩))).trans
   (hf.weak fun t ht=>.inl (List.mem_append_left _ (List.mem_filterMap.2 (by obtain ⟨o,ho,he⟩:=List.mem_map.1 ht;exact⟨o,ho,he⟩))))).trans ((KN ctl.keep Z').weak fun t ht=>.inr ht)
  cases draw with
  |true =>
   simp only[qK,xk,kq] at hk ⊢;refine YR (fun τ hz hk=>?_) hk;split at hk
   ·rename_i hc2;rw[if_pos hc2];exact KT hI (fun Z' hf hk=>h _ _ (hc τ Z' hz hf) hk) hk
   ·exact hk.elim
  |false =>
   simp only[qK,xk] at hk ⊢;refine YR (fun τ hz hk=>?_) hk;split at hk
   ·rename_i hm;rw[if_pos hm];exact Kz hI _ (fun o ho=>List.mem_map.2 ⟨o,ho,rfl⟩) (fun Z' hf hk=>h _ _ (hc τ Z' hz hf) hk) hk
   rename_i hm;rw[if_neg hm];exact IB hI _ (fun o ho=>List.mem_map.2 ⟨o,ho,rfl⟩) (fun Z' hf hk=>h _ _ (hc τ Z' hz hf) hk) hk
 |seq a b iha ihb =>
  intro sk n Z K K' h hk;have ha:∀ {Z Z'},FrD (CD ctl a) Z Z'->FrD (CD ctl (.seq a b)) Z Z':=fun hf=>hf.weak fun t ht=>ht.imp Xn.1 id
  have hb:∀ {Z Z'},FrD (CD ctl b) Z Z'->FrD (CD ctl (.seq a b)) Z Z':=fun hf=>hf.weak fun t ht=>ht.imp Xn.2 id
  simp only[qK] at hk ⊢;by_cases hsk:sk≠0
  ·rw[if_pos hsk] at hk ⊢;exact ihb _ (fun e Z' hf hk=>h _ _ (hb hf) hk) hk
  rw[if_neg hsk] at hk ⊢;split at hk
  ·rename_i hh hho;split at hk
   case isFalse=>exact hk.elim
   rename_i hall;rw[if_pos hall];refine Jk (fun Z' hf hk=>ihb _ (fun e Z'' hf' hk=>h _ _ ?_ hk) hk) hk;exact FrD.trans (hf.weak fun t ht=>.inl (List.elem_iff.1 (List.all_eq_true.1 hall t ht))) (hb hf')
  split at hk
  ·rename_i p hp;unfold Mu at hk ⊢;split at hk
   case isFalse=>exact hk.elim
   rename_i hin;rw[if_pos hin];obtain ⟨J,h1,h2⟩:=hk;refine⟨J,iha 0 (fun e Z' hf hk=>?_) h1,kr (fun gs ls bs hk hj=>ihb 0 (fun e Z' hf hk=>h _ _ ?_ hk) (hk hj)) h2⟩
   ·cases e with
    |normal=>exact hk
    |exit i=>exact h _ _ (ha hf) hk
    |ret=>exact h _ _ (ha hf) hk
   ·exact(ha (kD hin)).trans (hb hf)
  ·refine iha 0 (fun e Z' hf hk=>?_) hk;cases e with
   |normal=>exact ihb 0 (fun e Z'' hf' hk=>h _ _ ((ha hf).trans (hb hf')) hk) hk
   |exit i=>exact h _ _ (ha hf) hk
   |ret=>exact h _ _ (ha hf) hk
 |cond c a b iha ihb =>
  intro sk n Z K K' h hk;have ha:∀ {Z Z'},FrD (CD ctl a) Z Z'->FrD (CD ctl (.cond c a b)) Z Z':=fun hf=>hf.weak fun t ht=>ht.imp Xn.1 id
  have hb:∀ {Z Z'},FrD (CD ctl b) Z Z'->FrD (CD ctl (.cond c a b)) Z Z':=fun hf=>hf.weak fun t ht=>ht.imp Xn.2 id
  simp only[qK] at hk ⊢;split at hk
  ·exact iha 0 (fun e Z' hf hk=>h _ _ (ha hf) hk) hk
  ·exact ihb 0 (fun e Z' hf hk=>h _ _ (hb hf) hk) hk
  ·exact Xh (iha 0 (fun e Z' hf hk=>h _ _ (ha hf) hk)) (ihb 0 (fun e Z' hf hk=>h _ _ (hb hf) hk)) hk
  ·exact hk.elim
 |block id b ih =>
  intro sk n Z K K' h hk;simp only[qK] at hk ⊢;refine ih 0 (fun e Z' hf hk=>?_) hk;cases e with
  |normal=>exact h _ _ hf hk
  |exit i =>
   simp only at hk ⊢;split at hk
   ·rename_i hi;rw[if_pos hi];exact h _ _ hf hk
   ·rename_i hi;rw[if_neg hi];exact h _ _ hf hk
  |ret=>exact h _ _ hf hk
 |loop b ih =>
  intro sk n Z K K' h hk;simp only[qK] at hk ⊢;split at hk
  ·rename_i p hp;unfold Mz at hk ⊢;split at hk
   case isFalse=>exact hk.elim
   rename_i hin;rw[if_pos hin];obtain ⟨I,h1,h2⟩:=hk;refine⟨I,h1,fun m=>kr (fun gs ls bs hk hj=>ih 0 (fun e Z' hf hk=>?_) (hk hj)) (h2 m)⟩;have hff:FrD (CD ctl (.loop b)) Z Z':=(FrD.weak (kD hin) fun t ht=>ht).trans (hf.weak fun t ht=>ht);cases e with
   |normal=>exact hk
   |exit i=>exact h _ _ hff hk
   |ret=>exact h _ _ hff hk
  ·have key:∀(m:Nat) {Z1:St},FrD (CD ctl (.loop b)) Z Z1->PG (qK P S ctl b 0 n) m Z1 K->PG (qK P S ctl b 0 n) m Z1 K':=by
    intro m;induction m with
    |zero=>intro Z1 _ hk;exact hk.elim
    |succ m ihm =>
     intro Z1 h1 hk;refine ih 0 (fun e Z2 hf hk=>?_) hk;have hff:FrD (CD ctl (.loop b)) Z Z2:=h1.trans (hf.weak fun t ht=>ht);cases e with
     |normal=>exact ihm hff hk
     |exit i=>exact h _ _ hff hk
     |ret=>exact h _ _ hff hk
   exact key 8 (.refl ..) hk
 |exit id=>intro sk n Z K K' h hk;exact h _ _ (.refl ..) hk
 |ret=>intro sk n Z K K' h hk;exact h _ _ (.refl ..) hk
 |rangeFunc g ps x y ihx ihy =>
  intro sk n Z K K' h hk;simp only[qK] at hk ⊢;split at hk
  case h_2=>exact hk.elim
  rename_i p hp;split at hk
  case isFalse=>exact hk.elim
  rename_i hnr;rw[if_pos hnr];unfold QE at hk ⊢;split at hk
  case h_2=>exact hk.elim
  split at hk
  case h_2=>exact hk.elim
  split at hk
  case isFalse=>exact hk.elim
  rename_i hc;rw[if_pos hc];simp only[Bool.and_eq_true] at hc;have hin:xY [] p=true:=hc.2;obtain ⟨xs,h1,hway⟩:=hk;have h0:∀(sl:List AV) (bx bx':List (Option Bx)),FrD (CD ctl (.rangeFunc g ps x y)) Z ⟨sl,bx⟩->FrD (CD ctl (.rangeFunc g ps x y)) Z ⟨sl,bx'⟩:=fun sl bx bx' hf=>⟨hf.1,hf.2⟩
  have hs0:FrD (CD ctl (.rangeFunc g ps x y)) Z ⟨(QL g++(ctl.fz.filter (fun q:Nat × Nat=>decide (q.2<1000000000))).map (fun q:Nat × Nat=>q.2 % 1000000)).foldl (fun l t=>l.set t .undef) Z.sl,Z.bx⟩:=by
   refine⟨wm _,fun t ht=>xz _ t fun hm=>ht (.inl ?_)⟩;rcases List.mem_append.1 hm with hm | hm
   case inr=>exact List.mem_append_right _ hm
   refine List.mem_append_left _ ?_;unfold QL at hm;cases g with
   |tmp q=>simp only[List.mem_singleton] at hm;subst hm;simp[uB]
   |_=>simp at hm
  have round:∀ {τ:St} {x1:List AV} {N N':St->Prop},FrD (CD ctl (.rangeFunc g ps x y)) Z τ->(∀bx,N ⟨τ.sl,bx⟩->N' ⟨τ.sl,bx⟩) ->
    (if yE τ && decide (n<=τ.bx.length) then (fun τ K'=>qK P S ctl x 0 (τ.bx.length-τ.sl.length) τ fun e Za=>match e with
     |.normal=>if yE Za && (List.range (τ.bx.length-τ.sl.length)).all (fun b=>qq τ.bx b == qq Za.bx b) then qK P S ctl y 0 Za.bx.length (Za.more (Za.sl.length+8)) K' else False
     |_=>False) ⟨j6 τ.sl ps.toList x1,τ.bx++List.replicate τ.sl.length none⟩ (fun e Z1=>if qL n τ.bx Z1.bx then (match e with
      |.normal=>N ⟨τ.sl,Z1.bx⟩
      |e=>K e ⟨τ.sl,Z1.bx⟩) else False) else False) ->
    (if yE τ && decide (n<=τ.bx.length) then (fun τ K'=>qK P S ctl x 0 (τ.bx.length-τ.sl.length) τ fun e Za=>match e with
     |.normal=>if yE Za && (List.range (τ.bx.length-τ.sl.length)).all (fun b=>qq τ.bx b == qq Za.bx b) then qK P S ctl y 0 Za.bx.length (Za.more (Za.sl.length+8)) K' else False
     |_=>False) ⟨j6 τ.sl ps.toList x1,τ.bx++List.replicate τ.sl.length none⟩ (fun e Z1=>if qL n τ.bx Z1.bx then (match e with
      |.normal=>N' ⟨τ.sl,Z1.bx⟩
      |e=>K' e ⟨τ.sl,Z1.bx⟩) else False) else False):=by
   intro τ x1 N N' hfr hN hk;split at hk
   ·rename_i hl;rw[if_pos hl];refine ihx 0 (fun e Za _ hk=>?_) hk;cases e with
    |normal =>
     dsimp only at hk ⊢;split at hk
     ·rename_i hl2;rw[if_pos hl2];refine ihy 0 (fun e Z1 _ hk=>?_) hk;split at hk
      case isFalse=>exact hk.elim
      rename_i hbk;rw[if_pos hbk];cases e with
      |normal=>exact hN _ hk
      |exit i=>exact h _ _ (h0 _ _ _ hfr) hk
      |ret=>exact h _ _ (h0 _ _ _ hfr) hk
     ·exact hk.elim
    |exit i=>exact hk.elim
    |ret=>exact hk.elim
   ·exact hk.elim
  refine⟨xs,h1,?_⟩;dsimp only at hway ⊢;split at hway
  ·rename_i hun;rw[if_pos hun];obtain ⟨h2,hnil,I,h3,h4,h5⟩:=hway;refine⟨h2,fun he=>h _ _ (h0 _ _ _ hs0) (hnil he),I,ko _ (fun z hk hz=>?_) h3,fun i=>ko _ (fun z hk hz=>kr (fun gs ls bs hk hj=>?_) (hk hz)) (h4 i),kr (fun gs ls bs hk hj=>h _ _ ?_ (hk hj)) h5⟩
   ·exact round (N:=fun τ'=>qe P n ctl.keep [] _ false _ τ' (I 1)) (N':=fun τ'=>qe P n ctl.keep [] _ false _ τ' (I 1)) (h0 _ _ _ hs0) (fun bx hk=>hk) (hk hz)
   ·exact round (N:=fun τ'=>qe P n ctl.keep [] _ false _ τ' (I (i+2))) (N':=fun τ'=>qe P n ctl.keep [] _ false _ τ' (I (i+2))) ((h0 _ _ _ hs0).trans ((kD (p:=p.res n _) hin).weak fun t ht=>ht.elim (fun h=>by cases h) .inr)) (fun bx hk=>hk) (hk hj)
   ·exact(h0 _ _ _ hs0).trans ((kD (p:=p.res n _) hin).weak fun t ht=>ht.elim (fun h=>by cases h) .inr)
  rename_i hpl;rw[if_neg hpl];split at hway
  ·rename_i hun;rw[if_pos hun];refine⟨hway.1,?_⟩;have key:∀(ys:List (List AV)) (τ:St),FrD (CD ctl (.rangeFunc g ps x y)) Z τ->YZ n ps.toList (fun τ K'=>qK P S ctl x 0 (τ.bx.length-τ.sl.length) τ fun e Za=>match e with
     |.normal=>if yE Za && (List.range (τ.bx.length-τ.sl.length)).all (fun b=>qq τ.bx b == qq Za.bx b) then qK P S ctl y 0 Za.bx.length (Za.more (Za.sl.length+8)) K' else False
     |_=>False) K ys τ->YZ n ps.toList (fun τ K'=>qK P S ctl x 0 (τ.bx.length-τ.sl.length) τ fun e Za=>match e with
     |.normal=>if yE Za && (List.range (τ.bx.length-τ.sl.length)).all (fun b=>qq τ.bx b == qq Za.bx b) then qK P S ctl y 0 Za.bx.length (Za.more (Za.sl.length+8)) K' else False
     |_=>False) K' ys τ:=by
    intro ys;induction ys with
    |nil=>intro τ hfr hk;exact h _ _ hfr hk
    |cons z r ih=>intro τ hfr hk;exact round hfr (fun bx hk=>ih _ (h0 _ _ _ hfr) hk) hk
   exact key _ _ (h0 _ _ _ hs0) hway.2
  rename_i hun;rw[if_neg hun];obtain ⟨h2,I,h3,h4,h5⟩:=hway;refine⟨h2,I,h3,fun i=>ko _ (fun z hk hz=>kr (fun gs ls bs hk hj=>?_) (hk hz)) (h4 i),kr (fun gs ls bs hk hj=>h _ _ ?_ (hk hj)) h5⟩
  ·exact round (N:=fun τ'=>qe P n ctl.keep [] _ false _ τ' (I (i+1))) (N':=fun τ'=>qe P n ctl.keep [] _ false _ τ' (I (i+1))) ((h0 _ _ _ hs0).trans ((kD (p:=p.res n _) hin).weak fun t ht=>ht.elim (fun h=>by cases h) .inr)) (fun bx hk=>hk) (hk hj)
  ·exact(h0 _ _ _ hs0).trans ((kD (p:=p.res n _) hin).weak fun t ht=>ht.elim (fun h=>by cases h) .inr)
 |scope b _=>intro sk n Z K K' h hk;exact hk.elim
 |label l=>intro sk n Z K K' h hk;exact hk.elim
 |goto l=>intro sk n Z K K' h hk;exact hk.elim
 |refuse s=>intro sk n Z K K' h hk;exact hk.elim
theorem S5 (hI:jF S.inl) {ctl:Ctl} (c:Code) {n:Nat} {Z:St} {K K':Ex->St->Prop} (h:∀e Z',FrD (CD ctl c) Z Z'->K e Z'->K' e Z') (hk:awp P S n ctl c Z K):awp P S n ctl c Z K':=IE hI c 0 h hk
theorem Nk (hI:jF S.inl) {ctl:Ctl} {b:Code} {K:Ex->St->Prop}:∀ {m k:Nat} {Z:St},m<=k->Sl n (awp P S n ctl b) m Z K->Sl n (awp P S n ctl b) k Z K:=by
 intro m;induction m with
 |zero=>intro k Z _ h;exact h.elim
 |succ m ih =>
  intro k Z hk h;cases k with
  |zero=>omega
  |succ k =>
   refine S5 hI b (fun e Z' _ h=>?_) h;cases e with
   |normal=>obtain ⟨Z'',hw,h⟩:=h;exact⟨Z'',hw,ih (by omega) h⟩
   |exit i=>exact h
   |ret=>exact h
theorem Nr (hI:jF S.inl) {ctl:Ctl} {b:Code} {p:Pat} {Z:St} {K:Ex->St->Prop} (h:Mz P n ctl.keep (ctl.dsts b) p (awp P S n ctl b) Z K):∃Z',x6 n Z Z'/\∃m,Sl n (awp P S n ctl b) m Z' K:=by
 unfold Mz at h;split at h
 case isFalse=>exact h.elim
 rename_i hin;obtain ⟨I,h1,h2⟩:=h;have key:∀(m:Nat) (gs:List AV) (ls:List (List AV)) (bs:List AV),I m (xT gs ls bs)->qZ (p.gen.map (·.2)) gs=true->ls.length=p.app.length+p.cap.length->qZ (p.bgen.map (·.2)) bs=true ->
   Sl n (awp P S n ctl b) (m+1) (wY p.cap (q6 P n (ctl.keep++qQ Z.sl.length p.cap) (ctl.dsts b++qQ Z.sl.length p.cap) (p.up Z.sl.length) (j5 p.cap Z) gs ls bs)) K:=by
  intro m;induction m using Nat.strongRecOn with
  |_ m ih =>
   intro gs ls bs hI' h3 h4 h5;refine S5 hI b (fun e Z' hf hk=>?_) (ki h3 h4 h5 (h2 m) hI');cases e with
   |exit i=>exact hk
   |ret=>exact hk
   |normal =>
    have hff:=(kD (P:=P) (n:=n) (keep:=ctl.keep) (Z:=Z) (gs:=gs) (ls:=ls) (bs:=bs) hin).trans (hf.weak fun t ht=>ht);obtain ⟨gs',ls',bs',⟨k,hk,hI'⟩,h3,h4,h5,hw⟩:=qI hff.1 (fun t h1 h2=>hff.2 t (by simp only[not_or,Classical.not_not];exact⟨h2,h1⟩)) (by simp) hk;exact⟨_,hw,Nk hI (by omega) (ih k hk gs' ls' bs' hI' h3 h4 h5)⟩
 obtain ⟨gs,ls,bs,⟨m,hI'⟩,h3,h4,h5,hw⟩:=qI rfl (fun _ _ _=>rfl) (fun _=>rfl) h1;exact⟨_,hw,_,key m gs ls bs hI' h3 h4 h5⟩
theorem Lw (hI:jF S.inl) {ctl:Ctl} {a:Code} {g:St->(Ex->St->Prop)->Prop} {p:Pat} {k:Nat} {Z:St} {K:Ex->St->Prop} (h:Mu P n ctl.keep (ctl.dsts a) p (fun Z K'=>awp P S n ctl a Z fun e Z=>match e with
   |.normal=>qp n (ctl.zH k) Z fun Z=>K' .normal Z
   |e=>K' e Z) g Z K) :
  awp P S n ctl a Z fun e Z1=>match e with
   |.normal=>qp n (ctl.zH k) Z1 fun Z1=>∃Z',x6 n Z1 Z'/\g Z' K
   |e=>K e Z1:=by
 unfold Mu at h;split at h
 case isFalse=>exact h.elim
 rename_i hin;obtain ⟨J,h1,h2⟩:=h;refine S5 hI a (fun e Z' hf hk=>?_) h1;cases e with
 |exit i=>exact hk
 |ret=>exact hk
 |normal =>
  refine YR (fun τ hz hk=>?_) hk;have hf:=hf.trans (hz.weak (D':=CD ctl a) fun t ⟨u,hu,hlt,ht⟩=>.inl (List.mem_append_right _ (by obtain ⟨q,hq,he⟩:=List.mem_map.1 hu;exact List.mem_map.2 ⟨q,List.mem_filter.2 ⟨(List.mem_filter.1 hq).1,by rw[he];exact decide_eq_true hlt⟩,by rw[he,ht]⟩)));obtain ⟨gs,ls,bs,hJ,h3,h4,h5,hw⟩:=qI hf.1 (fun t h1 h2=>hf.2 t (by simp only[CD,not_or,Classical.not_not];exact⟨h2,h1⟩)) (by simp) hk;exact⟨_,hw,ki h3 h4 h5 h2 hJ⟩
end
end Go.Proofs.YtdeeekgohhkdbaaGreatDoor

/- What is followed may be followed to more; and slots that code does not write are as they were. Heads of loops and joins: what is known there is less than what was known before. Loops by what holds at their heads; paths that join. -/
import Derived.Test.YtdeeekgohhkdbaaGreatDoorW0
namespace Go.Proofs.YtdeeekgohhkdbaaGreatDoor
open Go.RowKit

def FrD (D:Nat->Prop) (Z Z':St):Prop:=Z'.sl.length=Z.sl.length/\∀ t,¬ D t->Z'.sl.getD t .undef=Z.sl.getD t .undef
theorem FrD.refl (D:Nat->Prop) (Z:St):FrD D Z Z:=⟨rfl,fun _ _=>rfl⟩
theorem FrD.trans {D:Nat->Prop} {Z τ υ:St} (h:FrD D Z τ) (h':FrD D τ υ):FrD D Z υ:=⟨h'.1.trans h.1,fun t ht=>(h'.2 t ht).trans (h.2 t ht)⟩
theorem FrD.weak {D D':Nat->Prop} {Z τ:St} (h:FrD D Z τ) (hd:∀ t,D t->D' t):FrD D' Z τ:=⟨h.1,fun t ht=>h.2 t fun hh=>ht (hd t hh)⟩
def Dst (d:Option Nat) (t:Nat):Prop:=d=some t
theorem FrD.put (Z:St) (d:Option Nat) (v:AV):FrD (Dst d) Z (Z.put d v):=by
 cases d with
 | none=>exact .refl ..
 | some d =>
  refine ⟨by simp [St.put],fun t ht=>?_⟩
  have:d≠t:=fun h=>ht (by rw [h]; rfl)
  simp only [St.put,List.getD,List.getElem?_set_ne this]
theorem FrD.bx (Z:St) (D:Nat->Prop) (bx:List (Option Bx)):FrD D Z { Z with bx:=bx }:=⟨rfl,fun _ _=>rfl⟩

theorem Ang.mono {α:Type} {F:(α->Prop)->Prop} (hF:Ang F) {K K':α->Prop} (h:∀ v,K v->K' v) (hk:F K):F K':=by
 obtain ⟨v,h1,h2⟩:=hF K hk
 exact h2 K' (h v h1)
theorem uT {g:Nat->Option (List AV)} {l:List (Nat × Nat × Nat × Bool)} {K K':Prop} (h:K->K') (hk:q6 g l K):q6 g l K':=by
 obtain ⟨h1,h2⟩:=VZ hk
 exact h2 g K' (fun _ _=>rfl) (h h1)

mutual
theorem XS:∀ (v:AV) (k:AV->Prop),xW v k=k v
 | .undef,_ | .tt,_ | .ff,_ | .bool _,_ | .lit _ _,_ | .int _ _,_ | .str _,_ | .nilp,_ | .ref _ _,_ | .slc _ _,_ | .aslc _ _ _ _ _,_ | .nilfn,_ | .nilif,_ | .map _,_ | .nilmap,_ | .yld _,_=>by simp only [xW]
 | .eptr cs off,k=>by simp only [xW,j5 cs]
 | .fn f a c,k=>by simp only [xW,j5 a,j5 c]
 | .iface t v,k=>by simp only [xW,XS v]
 | .agg cs,k=>by simp only [xW,j5 cs]
 | .tup cs,k=>by simp only [xW,j5 cs]
theorem j5:∀ (l:List AV) (k:List AV->Prop),we l k=k l
 | [],_=>by simp only [we]
 | x::r,k=>by simp only [we,XS x,j5 r]
end
theorem Py (keep:List Nat):∀ (l:List AV) (i:Nat) (k:List AV->Prop),Xe keep i l k=k (xH (fun j v=>if keep.contains j then v else .undef) i l):=by
 intro l
 induction l with
 | nil=>intro i k; rfl
 | cons x r ih =>
  intro i k
  simp only [Xe,XS,ih,xH]
  split<;>rfl
theorem Px:∀ (l:List (Option Bx)) (k:List (Option Bx)->Prop),vT l k=k l:=by
 intro l
 induction l with
 | nil=>intro k; rfl
 | cons x r ih =>
  intro k
  cases x with
  | none=>simp only [vT,ih]
  | some x =>
   obtain ⟨t,a,cs⟩:=x
   cases a<;>simp only [vT,ih,j5]
theorem w8 (keep:List Nat) (Z:St) (K:St->Prop):Yy keep Z K=K (clean keep Z):=by
 simp only [Yy,Py,Px,clean,Wt]

section
variable {P:Program} {S:Specs} {n:Nat}
theorem kE {d:Nat} {x:Bx} {p:AV} {Z:St} {K K':St->Prop} (h:∀ Z',FrD (Dst (some d)) Z Z'->K Z'->K' Z') (hk:qI n d x p Z K):qI n d x p Z K':=by
 unfold qI at *
 split at hk
 ·rename_i hc; rw [if_pos hc]
  exact h _ ((FrD.put Z (some d) p).trans (.bx _ _ _)) hk
 ·exact hk.elim
theorem Lc {f:FuncId} {args:List AV} {d:Option Nat} {Z:St} {K K':St->Prop} (h:∀ Z',FrD (Dst d) Z Z'->K Z'->K' Z') (hk:jC P S n f args d Z K):jC P S n f args d Z K':=by
 unfold jC at *
 dsimp only at *
 split at hk
 case h_2=>exact hk.elim
 rename_i bs fn hb hf
 try simp only [hb,hf]
 split at hk
 ·exact hk.elim
 rename_i hc
 rw [if_neg hc]
 refine uT (fun hk=>?_) hk
 refine vn.mono (fun v hk=>?_) hk
 refine (Xd _).mono (fun O hk=>⟨hk.1,?_⟩) hk
 have hk:=hk.2
 split at hk
 ·rename_i h1; rw [if_pos h1]; exact h _ ((FrD.bx Z _ _).trans (.put _ d _)) hk
 ·rename_i h1
  rw [if_neg h1]
  split at hk
  ·rename_i h2; rw [if_pos h2]; exact h _ ((FrD.bx Z _ _).trans (.put _ d _)) hk
  ·exact hk.elim
def jy (il:vJ):Prop:=∀ f args Z (K K':AV->St->Prop),(∀ v Z',Z'.sl=Z.sl->K v Z'->K' v Z')->il f args Z K->il f args Z K'
theorem W5 (hI:jy S.inl) {f:FuncId} {args:List AV} {d:Option Nat} {Z:St} {K K':St->Prop} (h:∀ Z',FrD (Dst d) Z Z'->K Z'->K' Z') (hk:Yk P S n f args d Z K):Yk P S n f args d Z K':=by
 unfold Yk at *
 split at hk
 ·rename_i hc
  rw [if_pos hc]
  refine hI f args Z _ _ (fun v Z' hsl hk=>?_) hk
  split at hk
  ·rename_i hb
   rw [if_pos hb]
   refine h _ ?_ hk
   have:FrD (Dst d) Z Z':=⟨by rw [hsl],fun t _=>by rw [hsl]⟩
   exact this.trans (.put _ d _)
  ·exact hk.elim
 ·rename_i hc
  rw [if_neg hc]
  exact Lc h hk
theorem Wa {K K':Prop} (h:K->K'):∀ {bs:List Bx} {O:List (List AV)},vS bs O K->vS bs O K':=by
 intro bs
 induction bs with
 | nil=>intro O hk; exact h hk
 | cons x r ih =>
  intro O hk
  cases O with
  | nil=>exact h hk
  | cons cs s =>
   unfold vS at hk ⊢
   split at hk
   ·rename_i hx; rw [if_pos hx]; exact ⟨hk.1,ih hk.2⟩
   ·rename_i hx; rw [if_neg hx]; exact ih hk
theorem Ub {k:Nat->Bool}:∀ {bs:List Bx} {i:Nat} {K K':List (List AV)->Prop},(∀ l,K l->K' l)->kv k P i bs K->kv k P i bs K':=by
 intro bs
 induction bs with
 | nil=>intro i K K' h hk; exact h _ hk
 | cons x r ih =>
  intro i K K' h hk
  unfold kv at hk ⊢
  split at hk
  ·rename_i hc; rw [if_pos hc]; exact ih (fun l hl=>h _ hl) hk
  ·rename_i hc; rw [if_neg hc]
   split at hk
   ·rename_i hx; rw [if_pos hx]
    obtain ⟨zs,hk⟩:=hk
    exact ⟨zs,ih (fun l hl=>h _ hl) hk⟩
   ·rename_i hx; rw [if_neg hx]
    exact (Uz _).mono (fun cs hk=>ih (fun l hl=>h _ hl) hk) hk
theorem Ld {f:FuncId} {args:List AV} {d:Option Nat} {Z:St} {K K':St->Prop} (h:∀ Z',FrD (Dst d) Z Z'->K Z'->K' Z') (hk:Ut P S f args d Z K):Ut P S f args d Z K':=by
 unfold Ut at *
 dsimp only at *
 split at hk
 case h_2=>exact hk.elim
 rename_i bs fn hb hf
 try simp only [hb,hf]
 split at hk
 ·exact hk.elim
 rename_i hc
 rw [if_neg hc]
 refine Wa (fun hk=>?_) hk
 refine vn.mono (fun v hk=>?_) hk
 refine Ub (fun O hk=>⟨hk.1,Wa (fun hk=>?_) hk.2⟩) hk
 exact h _ ((FrD.bx Z _ _).trans (.put _ d _)) hk
theorem Lg (hI:jy S.inl) {f:FuncId} {args:List AV} {d:Option Nat} {Z:St} {K K':St->Prop} (h:∀ Z',FrD (Dst d) Z Z'->K Z'->K' Z') (hk:Yl P S n f args d Z K):Yl P S n f args d Z K':=by
 unfold Yl at *
 split at hk
 ·rename_i hc; rw [if_pos hc]; exact Ld h hk
 ·rename_i hc; rw [if_neg hc]; exact W5 hI h hk
theorem Ma {ts:List TypeId} {b len:Nat} {K K':Nat->AV->Prop} (h:∀ k v,K k v->K' k v) (hk:Kh ts b len K):Kh ts b len K':=by
 unfold Kh at *
 split at hk
 ·exact h _ _ hk
 ·obtain ⟨m,h1,h2⟩:=hk
  exact ⟨m,h1,h _ _ h2⟩
 ·exact hk.elim
theorem JI {f:FuncId} {b len:Nat} {d:Option Nat} {Z:St} {K K':St->Prop} (h:∀ Z',FrD (Dst d) Z Z'->K Z'->K' Z') (hk:N8 P S f b len d Z K):N8 P S f b len d Z K':=by
 unfold N8 at *
 split at hk
 ·split at hk
  ·rename_i hx ha
   try simp only [hx]
   rw [if_pos ha]
   refine Ma (fun k v hq=>?_) hk
   obtain ⟨zs,zs',h1,h2⟩:=hq
   refine ⟨zs,zs',h1,h _ ?_ h2⟩
   have:FrD (Dst d) Z { Z with bx:=Z.bx.set b (some { (by assumption:Bx) with cs:=zs'.map (AV.int .i64) }) }:=⟨rfl,fun t _=>rfl⟩
   exact FrD.trans ⟨rfl,fun t _=>rfl⟩ (.put _ d _)
  ·exact hk.elim
 ·exact hk.elim
theorem Ll {f:FuncId} {b len:Nat} {d:Option Nat} {Z:St} {K K':St->Prop} (h:∀ Z',FrD (Dst d) Z Z'->K Z'->K' Z') (hk:Uw P S n f b len d Z K):Uw P S n f b len d Z K':=by
 unfold Uw at *
 split at hk
 ·rename_i hd he hx
  split at hk
  ·rename_i ha
   rw [if_pos ha]
   obtain ⟨zs,ws,h1,h2⟩:=hk
   exact ⟨zs,ws,h1,kE h h2⟩
  ·exact hk.elim
 ·exact hk.elim
theorem Le {f:FuncId} {args:List AV} {d:Option Nat} {Z:St} {K K':St->Prop} (h:∀ Z',FrD (Dst d) Z Z'->K Z'->K' Z') (hk:Y6 P S n f args d Z K):Y6 P S n f args d Z K':=by
 unfold Y6 at *
 split at hk
 ·rename_i b len hm
  try simp only [hm]
  split at hk
  ·rename_i hc; rw [if_pos hc]; exact Ll h hk
  ·rename_i hc; rw [if_neg hc]; exact JI h hk
 rename_i hm
 try simp only [hm]
 split at hk
 ·split at hk
  ·rename_i ht
   obtain ⟨es,h1,h2⟩:=hk
   try simp only
   rw [if_pos ht]
   exact ⟨es,h1,kE h h2⟩
  ·exact hk.elim
 ·exact hk.elim
theorem Lf {f:FuncId} {args:List AV} {d:Option Nat} {Z:St} {K K':St->Prop} (h:∀ Z',FrD (Dst d) Z Z'->K Z'->K' Z') (hk:uw P S n f args d Z K):uw P S n f args d Z K':=by
 unfold uw at *
 split at hk
 ·rename_i hc
  try simp only [hc]
  split at hk
  ·split at hk
   ·rename_i h1 h2 h3
    try simp only [h1,h2,h3]
    exact ⟨hk.1,h _ (.put Z d _) hk.2⟩
   ·exact hk.elim
  ·exact hk.elim
 ·rename_i hc
  try simp only [hc]
  exact Le h hk
theorem VD {t:TypeId} {Z:St} {x:AV} {K K':AV->Prop} (h:∀ v,K v->K' v) (hk:uh P t Z x K):uh P t Z x K':=by
 obtain ⟨v,h1,h2⟩:=Wg hk
 exact h2 Z (fun _ _=>rfl) K' (h v h1)
theorem Mt {t:TypeId} {Z:St} {a v:AV} {K K':St->Prop} (h:∀ Z',FrD (fun _=>False) Z Z'->K Z'->K' Z') (hk:va P t Z a v K):va P t Z a v K':=by
 obtain ⟨b,x,_,_,h1,h2⟩:=Xr hk
 exact h2 Z (fun _ _=>rfl) K' (h _ (.bx _ _ _) h1)
theorem QK {t:TypeId} {Z:St} {x:AV} {lo hi mx:Option AV} {K K':AV->Prop} (h:∀ v,K v->K' v) (hk:kK P t Z x lo hi mx K):kK P t Z x lo hi mx K':=by
 unfold kK at *
 repeat' split at hk
 all_goals first
  | exact hk.elim
  | (simp_all; done)
  | (obtain ⟨h1,h2⟩:=hk; simp_all; done)
  | (obtain ⟨⟨h0,h1,h1'⟩,h2⟩:=hk; subst h1; simp_all; done)
theorem uS {k:Nat} {Z:St} {x:AV} {K K':Nat->List AV->Prop} (h:∀ m l,K m l->K' m l) (hk:qp Z k x K):qp Z k x K':=by
 unfold qp at *
 split at hk
 ·exact ⟨hk.1,h _ _ hk.2⟩
 ·split at hk
  ·rename_i hb; (try simp only [hb]); exact ⟨hk.1,h _ _ hk.2⟩
  ·exact hk.elim
 ·exact hk.elim
theorem Sw {ts:List TypeId} {s x:AV} {d:Nat} {Z:St} {K K':St->Prop} (h:∀ Z',FrD (Dst (some d)) Z Z'->K Z'->K' Z') (hk:appendIn P ts s x d Z K):appendIn P ts s x d Z K':=by
 unfold appendIn at *
 split at hk
 ·split at hk
  ·rename_i h1 h2
   try simp only [h1,h2]
   split at hk
   ·exact hk.elim
   ·rename_i hc
    rw [if_neg hc]
    refine uS (fun m l hk=>?_) hk
    split at hk
    ·split at hk
     ·rename_i hb
      try simp only [hb]
      split at hk
      ·rename_i hcc
       rw [if_pos hcc]
       exact ⟨hk.1,h _ (FrD.put { Z with bx:=_ } (some d) _) hk.2⟩
      ·exact hk.elim
     ·exact hk.elim
    ·exact hk.elim
  ·exact hk.elim
 ·exact hk.elim
theorem Pc {ts:List TypeId} {s x:AV} {d:Nat} {Z:St} {K K':St->Prop} (h:∀ Z',FrD (Dst (some d)) Z Z'->K Z'->K' Z') (hk:jV P n ts s x d Z K):jV P n ts s x d Z K':=by
 unfold jV at *
 split at hk
 ·split at hk
  ·rename_i h1 h2
   try simp only [h1,h2]
   split at hk
   ·exact hk.elim
   ·rename_i hc
    rw [if_neg hc]
    refine uS (fun m l hk=>?_) hk
    split at hk
    ·exact ⟨hk.1,kE h hk.2⟩
    ·exact ⟨hk.1,kE h hk.2⟩
    ·split at hk
     ·rename_i hb
      try simp only [hb]
      split at hk
      ·rename_i h3; rw [if_pos h3]; exact ⟨hk.1,kE (fun Z' h1 h2=>h Z' (.trans ⟨rfl,fun _ _=>rfl⟩ h1) h2) hk.2⟩
      ·exact hk.elim
     ·exact hk.elim
    ·exact hk.elim
  ·exact hk.elim
 ·exact hk.elim

theorem TX {t:TypeId} {Z:St} {m k:AV} {ok:Bool} {K K':AV->Prop} (h:∀ v,K v->K' v) (hk:wi P t Z m k ok K):wi P t Z m k ok K':=by
 unfold wi at *
 split at hk
 ·split at hk
  ·split at hk
   ·exact ⟨hk.1,hk.2.1,(uZ _).mono (fun v ⟨f,h1,h2⟩=>⟨f,h1,h _ h2⟩) hk.2.2⟩
   ·exact hk.elim
  ·exact hk.elim
 ·exact hk.elim
theorem JN {t:TypeId} {Z:St} {m k v:AV} {K K':St->Prop} (h:∀ Z',FrD (fun _=>False) Z Z'->K Z'->K' Z') (hk:Mh P t Z m k v K):Mh P t Z m k v K':=by
 unfold Mh at *
 split at hk
 ·split at hk
  ·split at hk
   ·obtain ⟨h1,h2,es',h3,h4⟩:=hk
    exact ⟨h1,h2,es',h3,h _ (.bx _ _ _) h4⟩
   ·exact hk.elim
  ·exact hk.elim
 ·exact hk.elim
theorem Kd {d:Nat} {t:TypeId} {Z:St} {K K':St->Prop} (h:∀ Z',FrD (Dst (some d)) Z Z'->K Z'->K' Z') (hk:UZ n d t Z K):UZ n d t Z K':=by
 unfold UZ at *
 split at hk
 ·rename_i hc; rw [if_pos hc]
  exact h _ ((FrD.put Z (some d) _).trans (.bx _ _ _)) hk
 ·exact hk.elim
theorem Q8 (hI:jy S.inl) {o:Oper} {Z:St} {K K':St->Prop} (h:∀ Z',FrD (Dst o.dst) Z Z'->K Z'->K' Z') (hk:aop P S n o Z K):aop P S n o Z K':=by
 have hp:∀ v,K (Z.put o.dst v)->K' (Z.put o.dst v):=fun v=>h _ (.put Z o.dst v)
 unfold aop at *
 split at hk
 ·split at hk
  ·rename_i hd _; rw [hd] at h; exact kE h hk
  ·exact hk.elim
 ·split at hk
  ·rename_i hd
   split at hk
   ·rename_i hc; (try simp only); rw [if_pos hc]; rw [hd] at h; exact kE h hk
   ·exact hk.elim
  ·exact hk.elim
 ·split at hk
  ·split at hk
   ·split at hk
    ·rename_i hc
     try simp only
     rw [if_pos hc]
     split at hk
     ·split at hk
      ·rename_i hc2
       rw [if_pos hc2]
       split at hk
       ·rename_i d hd
        have hd:o.dst=some d:=by
         unfold Wv at hd
         split at hd
         ·rename_i d' hd'; split at hd<;>simp_all
         ·cases hd
        rw [hd] at h; exact kE h hk
       ·exact hp _ hk
      ·exact hk.elim
     ·exact hk.elim
    ·exact hk.elim
   ·exact hk.elim
  ·exact hk.elim
 ·split at hk
  ·rename_i hd _; rw [hd] at h; exact Kd h hk
  ·exact hk.elim
 ·exact TX (fun v hk=>hp v hk) hk
 ·exact JN (fun Z' h1 h2=>h _ ((h1.weak fun _=>False.elim).trans (.put Z' o.dst _)) h2) hk
 ·exact VD (fun v hk=>hp v hk) hk
 ·exact Mt (fun Z' h1 h2=>h _ ((h1.weak fun _=>False.elim).trans (.put Z' o.dst _)) h2) hk
 ·exact uF.mono (fun v hk=>hp v hk) hk
 ·exact Vx.mono (fun v hk=>hp v hk) hk
 ·exact QK (fun v hk=>hp v hk) hk
 ·split at hk
  ·exact hp _ hk
  ·split at hk
   ·exact hp _ hk
   ·exact hk.elim
 ·split at hk
  ·rename_i hd
   split at hk
   ·split at hk
    ·rename_i hc
     try simp only
     rw [if_pos hc]
     rw [hd] at h
     exact ⟨hk.1,kE h hk.2⟩
    ·exact hk.elim
   ·exact hk.elim
  ·exact hk.elim
 ·exact ux.mono (fun v hk=>hp v hk) hk
 ·exact ux.mono (fun v hk=>hp v hk) hk
 ·exact ux.mono (fun v hk=>hp v hk) hk
 ·exact ux.mono (fun v hk=>hp v hk) hk
 ·split at hk
  ·exact fun b hb=>hp _ (hk b hb)
  ·split at hk
   ·exact hp _ hk
   ·exact hk.elim
 ·split at hk
  ·split at hk
   ·rename_i hc; rw [if_pos hc]; exact Lf h hk
   ·rename_i hc; rw [if_neg hc]; exact W5 hI h hk
  ·split at hk
   ·exact Lg hI h hk
   ·exact hk.elim
  ·split at hk
   ·split at hk
    ·rename_i hm; (try simp only [hm]); exact W5 hI h hk
    ·exact hk.elim
   ·exact hk.elim
  ·split at hk
   ·rename_i hs hd; rw [hd] at h; (try simp only [hs])
    split at hk
    ·rename_i ho; rw [if_pos ho]; exact Sw h hk
    ·rename_i ho; rw [if_neg ho]; exact Pc h hk
   ·exact hk.elim
  ·split at hk
   ·exact hp _ hk
   ·exact hk.elim
 ·split at hk
  ·exact hp _ hk
  ·exact hk.elim

theorem Y5 {b:Bool} {A A' B B':Prop} (ha:A->A') (hb:B->B') (h:br b A B):br b A' B':=⟨fun x=>ha (h.1 x),fun x=>hb (h.2 x)⟩
def Yf (l:List (Option Nat)) (t:Nat):Prop:=some t∈l
theorem K3 (hI:jy S.inl) {dsts:List (Option Nat)}:∀ (ops:List Oper) {Z:St} {K K':St->Prop},(∀ o∈ops,o.dst∈dsts)->(∀ Z',FrD (Yf dsts) Z Z'->K Z'->K' Z')->xe P S n dsts ops Z K->xe P S n dsts ops Z K':=by
 intro ops
 induction ops with
 | nil=>intro Z K K' _ h hk; exact h _ (.refl ..) hk
 | cons o r ih =>
  intro Z K K' hd h hk
  have hr:∀ o∈r,o.dst∈dsts:=fun x hx=>hd x (List.mem_cons_of_mem _ hx)
  have hdo:∀ t,Dst o.dst t->Yf dsts t:=fun t ht=>by have:=hd o (by simp); rw [show o.dst=some t from ht] at this; exact this
  have step:∀ Z1,FrD (Yf dsts) Z Z1->xe P S n dsts r Z1 K->xe P S n dsts r Z1 K':=fun Z1 h1 hk=>ih hr (fun Z' h2 hk=>h Z' (h1.trans h2) hk) hk
  have stepO:∀ Z1,FrD (Yf dsts) Z Z1->(aop P S n o Z1 fun Z=>xe P S n dsts r Z K)->(aop P S n o Z1 fun Z=>xe P S n dsts r Z K'):=fun Z1 h1 hk=>Q8 hI (fun Z' h2 hk=>step Z' (h1.trans (h2.weak hdo)) hk) hk
  have hput:∀ Z1 v,FrD (Yf dsts) Z Z1->FrD (Yf dsts) Z (Z1.put o.dst v):=fun Z1 v h1=>h1.trans ((FrD.put Z1 o.dst v).weak hdo)
  unfold xe at hk ⊢
  split at hk
  ·exact stepO _ (.refl ..) hk
  ·rename_i j want hg
   split at hk
   ·rename_i d hj
    have hgd:∀ v,FrD (Yf dsts) Z (Z.put (some d) v):=fun v=>(FrD.put Z (some d) v).weak (fun t ht=>by cases ht; exact List.mem_of_getElem? hj)
    split at hk
    ·split at hk
     ·rename_i hw; rw [if_pos hw]; exact stepO _ (.refl ..) hk
     ·rename_i hw; rw [if_neg hw]; exact step _ (hput _ _ (.refl ..)) hk
    ·split at hk
     ·rename_i hw; rw [if_pos hw]; exact step _ (hput _ _ (.refl ..)) hk
     ·rename_i hw; rw [if_neg hw]; exact stepO _ (.refl ..) hk
    ·split at hk
     ·rename_i hw; rw [if_pos hw]; exact Y5 (stepO _ (hgd _)) (step _ (hput _ _ (hgd _))) hk
     ·rename_i hw; rw [if_neg hw]; exact Y5 (step _ (hput _ _ (hgd _))) (stepO _ (hgd _)) hk
    ·exact step _ (hput _ _ (.refl ..)) hk
    ·exact hk.elim
   ·exact hk.elim

theorem JH {o:Oper} {M:uo} {Z:St} {K K':uo->St->Prop} (h:∀ M Z',FrD (Dst o.dst) Z Z'->K M Z'->K' M Z') (hk:N5 P o M Z K):N5 P o M Z K':=by
 have hp:∀ M v,K M (Z.put o.dst v)->K' M (Z.put o.dst v):=fun M v=>h M _ (.put Z o.dst v)
 have hpop:Wk P o M Z K->Wk P o M Z K':=fun hk=>by
  unfold Wk at *
  split at hk
  ·rename_i hc
   rw [if_pos hc]
   split at hk
   ·exact hp _ _ hk
   ·exact hk.elim
  ·exact hk.elim
 have hget:∀ b,VK M o.dst b Z K->VK M o.dst b Z K':=fun b hk=>by
  unfold VK at *
  split at hk
  ·exact hp _ _ hk
  ·exact hk.elim
 unfold N5 at hk ⊢
 split at hk
 ·split at hk
  ·rename_i hc
   rw [if_pos hc]
   exact VD (fun v hk=>hp _ _ hk) hk
  ·exact hk.elim
 ·split at hk
  ·split at hk
   ·rename_i hc
    rw [if_pos hc]; exact hp _ _ hk
   ·exact hk.elim
  ·exact hk.elim
 ·split at hk
  ·split at hk
   ·rename_i hc
    rw [if_pos hc]; exact Y5 (hget _) (hget _) hk
   ·exact hk.elim
  ·exact hk.elim
 ·split at hk
  ·rename_i d hd hop
   rw [hd] at h
   split at hk
   ·rename_i hc
    rw [if_pos hc]
    split at hk
    ·rename_i hc2
     rw [if_pos hc2]; exact h _ _ (.put ..) hk
    ·exact hk.elim
   ·rename_i hc
    rw [if_neg hc]; exact hpop hk
  ·exact hpop hk
 ·exact hpop hk
theorem M0 (hI:jy S.inl) {dsts:List (Option Nat)}:∀ (ops:List Oper) {M:Option uo} {Z:St} {K K':St->Prop},(∀ o∈ops,o.dst∈dsts)->(∀ Z',FrD (Yf dsts) Z Z'->K Z'->K' Z')->uu P S n ops M Z K->uu P S n ops M Z K':=by
 intro ops
 induction ops with
 | nil=>intro M Z K K' _ h hk; exact h _ (.refl ..) hk
 | cons o r ih =>
  intro M Z K K' hd h hk
  have hr:∀ o∈r,o.dst∈dsts:=fun x hx=>hd x (List.mem_cons_of_mem _ hx)
  have hdo:∀ t,Dst o.dst t->Yf dsts t:=fun t ht=>by have:=hd o (by simp); rw [show o.dst=some t from ht] at this; exact this
  have step:∀ M Z1,FrD (Yf dsts) Z Z1->uu P S n r M Z1 K->uu P S n r M Z1 K':=fun M Z1 h1 hk=>ih hr (fun Z' h2 hk=>h Z' (h1.trans h2) hk) hk
  unfold uu at hk ⊢
  split at hk
  ·exact hk.elim
  ·rename_i hg
   rw [if_neg hg]
   split at hk
   ·split at hk
    ·rename_i d hop hd2
     split at hk
     ·rename_i hc
      rw [if_pos hc]; exact step _ _ ((FrD.put Z (some d) _).weak fun t ht=>hdo t (by rw [hd2]; exact ht)) hk
     ·exact hk.elim
    ·exact hk.elim
    ·exact Q8 hI (fun Z' h2 hk=>step none Z' (h2.weak hdo) hk) hk
   ·exact JH (fun M Z' h2 hk=>step _ Z' (h2.weak hdo) hk) hk
theorem KR {g:Bool} {d:Option Nat} {Z:St} {K K':St->Prop} (h:∀ Z',FrD (Dst d) Z Z'->K Z'->K' Z') (hk:split g d Z K):split g d Z K':=by
 unfold split at *
 split at hk
 ·split at hk
  ·rename_i hb; (try simp only); exact Y5 (h _ (.put ..)) (h _ (.put ..)) hk
  ·(try simp only); exact h _ (.refl ..) hk
 ·exact h _ (.refl ..) hk
theorem LM (hI:jy S.inl) {dsts:List (Option Nat)} {g:Bool} {o:Oper} {Z:St} {K K':St->Prop} (h:∀ Z',FrD (Dst o.dst) Z Z'->K Z'->K' Z') (hk:gop P S n dsts g o Z K):gop P S n dsts g o Z K':=by
 have hs:(aop P S n o Z fun Z=>split g o.dst Z K)->(aop P S n o Z fun Z=>split g o.dst Z K'):=Q8 hI fun Z1 h1 hk=>KR (fun Z2 h2 hk=>h _ (h1.trans h2) hk) hk
 have hp:=h _ (.put Z o.dst (.tup []))
 unfold gop at *
 split at hk
 ·exact hs hk
 ·split at hk
  ·split at hk
   ·split at hk
    ·rename_i hw; rw [if_pos hw]; exact hs hk
    ·rename_i hw; rw [if_neg hw]; exact hp hk
   ·split at hk
    ·rename_i hw; rw [if_pos hw]; exact hp hk
    ·rename_i hw; rw [if_neg hw]; exact hs hk
   ·exact hp hk
   ·exact hk.elim
  ·exact hk.elim
theorem OO (hI:jy S.inl) {ops:Array Oper}:∀ (l:List Nat) {past:List Fp} {Z:St} {K K':St->Prop},(∀ Z',FrD (Yf (qc ops.toList)) Z Z'->K Z'->K' Z')->V7 P S n ops l past Z K->V7 P S n ops l past Z K':=by
 intro l
 induction l with
 | nil=>intro past Z K K' h hk; exact h _ (.refl ..) hk
 | cons i r ih =>
  intro past Z K K' h hk
  unfold V7 at hk ⊢
  cases ho:ops[i]? with
  | none=>rw [ho] at hk; exact hk.elim
  | some o =>
   rw [ho] at hk
   simp only at hk ⊢
   have hdo:∀ t,Dst o.dst t->Yf (qc ops.toList) t:=fun t ht=>by
    refine List.mem_map.2 ⟨o,?_,ht⟩
    have:=List.mem_of_getElem? (by rw [<- Array.getElem?_toList] at ho; exact ho)
    exact this
   split at hk
   ·exact hk.elim
   ·split at hk
    ·rename_i hc
     rw [if_pos hc]
     refine LM hI (fun Z' h1 hk=>?_) hk
     simp only [kf] at hk ⊢
     split at hk
     ·rename_i hc2
      rw [if_pos hc2]
      exact ih (fun Z'' h2 hk=>h _ ((h1.weak hdo).trans h2) hk) hk
     ·exact hk.elim
    ·exact hk.elim
theorem VM {nm:Bool} {esz:Nat} {ag:Bool} {len:Nat} {cs:List AV} {K K':List AV->Prop} (h:∀ es,K es->K' es) (hk:VL nm esz ag len cs K):VL nm esz ag len cs K':=by
 unfold VL at hk ⊢
 split at hk
 ·rename_i hn
  rw [if_pos hn]
  obtain ⟨es,h1,h2⟩:=hk
  exact ⟨es,h1,h es h2⟩
 ·rename_i hn
  rw [if_neg hn]; exact h _ hk
theorem YF {nm:Bool} {t:Nat} {Z:St} {K K':St->Prop} (h:∀ Z',FrD (fun i=>i=t) Z Z'->K Z'->K' Z') (hk:wg nm n t Z K):wg nm n t Z K':=by
 unfold wg at hk ⊢
 split at hk
 ·rename_i hs
  (try simp only [hs])
  split at hk
  ·rename_i hb
   (try simp only [hb])
   split at hk
   ·rename_i hn
    rw [if_pos hn]
    refine uT (fun hk=>VM (fun es hk=>h _ ⟨by simp,fun i hi=>?_⟩ hk) hk) hk
    simp only [List.getD,List.getElem?_set_ne (Ne.symm hi)]
   ·exact hk.elim
  ·exact hk.elim
 ·rename_i hs
  (try simp only [hs])
  split at hk
  ·rename_i hb
   (try simp only [hb])
   split at hk
   ·rename_i hn
    rw [if_pos hn]
    refine h _ ⟨by simp,fun i hi=>?_⟩ hk
    simp only [List.getD,List.getElem?_set_ne (Ne.symm hi)]
   ·exact hk.elim
  ·exact hk.elim
 ·exact h _ (.refl ..) hk
theorem Mq {ops:List Oper} {o:Oper} {Z:St} {K K':St->Prop} (h:∀ Z',FrD (Yf (qc ops)) Z Z'->K Z'->K' Z') (hk:Yd n ops o Z K):Yd n ops o Z K':=by
 unfold Yd at hk ⊢
 split at hk
 ·split at hk
  ·split at hk
   ·split at hk
    ·rename_i hc
     rw [if_pos hc]
     simp only [Bool.and_eq_true,List.contains_iff_mem] at hc
     exact YF (fun τ hf hk=>h τ (hf.weak fun i hi=>by rw [hi]; exact hc.2) hk) hk
    ·rename_i hc
     rw [if_neg hc]; exact h _ (.refl ..) hk
   ·exact h _ (.refl ..) hk
  ·exact h _ (.refl ..) hk
 ·exact h _ (.refl ..) hk
theorem JZ (hI:jy S.inl) {ops:Array Oper}:∀ (l:List Nat) {Z:St} {K K':St->Prop},(∀ Z',FrD (Yf (qc ops.toList)) Z Z'->K Z'->K' Z')->Od P S n ops l K Z->Od P S n ops l K' Z:=by
 intro l
 induction l with
 | nil=>intro Z K K' h hk; exact h _ (.refl ..) hk
 | cons x r ih =>
  intro Z K K' h hk
  unfold Od at hk ⊢
  split at hk
  ·rename_i o ho
   exact Mq (fun τ h1 hk=>LM hI (fun Z2 h2 hk=>ih (fun Z3 h3 hk=>h Z3 (h1.trans ((h2.weak fun t ht=>List.mem_map.2 ⟨o,by simpa using Array.mem_of_getElem? ho,ht⟩).trans h3)) hk) hk) hk) hk
  ·exact hk.elim
theorem Lr (hI:jy S.inl) {ops:Array Oper} {ord:List Nat} {Z:St} {K K':St->Prop} (h:∀ Z',FrD (Yf (qc ops.toList)) Z Z'->K Z'->K' Z') (hk:Ux P S n ops ord Z K):Ux P S n ops ord Z K':=by
 unfold Ux at hk ⊢
 simp only [kf] at hk ⊢
 split at hk
 ·rename_i hc; rw [if_pos hc]; exact OO hI _ h hk
 ·rename_i hc
  rw [if_neg hc]
  split at hk
  ·rename_i hf
   rw [if_pos hf]
   exact OO hI _ (fun Z' hf hk=>JZ hI _ (fun Z2 h2 hk=>h Z2 (hf.trans h2) hk) hk) hk
  ·exact hk.elim
end

theorem qR {α:Type}:∀ {l:List (Nat × α)} {a:Nat} {b:α},l.lookup a=some b->(a,b)∈l:=by
 intro l
 induction l with
 | nil=>intro a b h; simp at h
 | cons x r ih =>
  intro a b h
  obtain ⟨k,v⟩:=x
  simp only [List.lookup_cons] at h
  split at h
  ·rename_i hk
   simp only [beq_iff_eq] at hk
   cases h; subst hk; simp
  ·exact List.mem_cons_of_mem _ (ih h)
theorem uK {α:Type}:∀ {l:List (Nat × α)} {a:Nat},l.lookup a=none->∀ q∈l,q.1≠a:=by
 intro l
 induction l with
 | nil=>intro a h q hq; simp at hq
 | cons x r ih =>
  intro a h q hq
  obtain ⟨k,v⟩:=x
  simp only [List.lookup_cons] at h
  split at h
  ·cases h
  ·rename_i hk
   simp only [beq_eq_false_iff_ne,ne_eq] at hk
   rcases List.mem_cons.1 hq with rfl | hq
   ·exact fun h=>hk h.symm
   ·exact ih h q hq

theorem U3 {α:Type}:∀ {l:List (Nat × α)} {a:Nat} {b c:α},(l.map (·.1)).Nodup->(a,b)∈l->(a,c)∈l->b=c:=by
 intro l
 induction l with
 | nil=>intro a b c _ h; simp at h
 | cons x r ih =>
  intro a b c hn hb hc
  simp only [List.map_cons,List.nodup_cons,List.mem_map,not_exists,not_and] at hn
  rcases List.mem_cons.1 hb with hb | hb
  ·rcases List.mem_cons.1 hc with hc | hc
   ·rw [<- hb] at hc; cases hc; rfl
   ·exact absurd (by rw [<- hb]) (hn.1 _ hc)
  ·rcases List.mem_cons.1 hc with hc | hc
   ·exact absurd (by rw [<- hc]) (hn.1 _ hb)
   ·exact ih hn.2 hb hc
theorem uC:∀ (l m:List AV),jq l m=true->l.length=m.length:=by
 intro l
 induction l with
 | nil=>intro m h; cases m with
  | nil=>rfl
  | cons _ _=>simp [jq] at h
 | cons a r ih=>intro m h; cases m with
  | nil=>simp [jq] at h
  | cons b s=>simp only [jq,Bool.and_eq_true] at h; simp [ih s h.2]

mutual
theorem Xp {h:Nat->Option Nat} (v:AV) (ht:v.tree=true):v.zj h=v:=by
 cases v with
 | ref b off=>simp [AV.tree] at ht
 | aslc b off len esz ag=>simp [AV.tree] at ht
 | map b=>simp [AV.tree] at ht
 | fn f a b =>
  simp only [AV.tree,Bool.and_eq_true] at ht
  simp only [AV.zj]; rw [xb a ht.1,xb b ht.2]
 | iface t v=>simp only [AV.zj]; rw [Xp v (by simpa [AV.tree] using ht)]
 | eptr cs off=>simp only [AV.zj]; rw [xb cs (by simpa [AV.tree] using ht)]
 | agg cs=>simp only [AV.zj]; rw [xb cs (by simpa [AV.tree] using ht)]
 | tup cs=>simp only [AV.zj]; rw [xb cs (by simpa [AV.tree] using ht)]
 | _=>rfl
theorem xb {h:Nat->Option Nat} (l:List AV) (ht:AV.zi l=true):AV.zg h l=l:=by
 cases l with
 | nil=>rfl
 | cons x r =>
  simp only [AV.zi,Bool.and_eq_true] at ht
  simp only [AV.zg]; rw [Xp x ht.1,xb r ht.2]
end
mutual
theorem Sb {h:Nat->Option Nat} (v:AV) (ht:∀ b∈v.refs,h b=some b):v.zj h=v:=by
 cases v with
 | ref b off=>simp only [AV.zj]; rw [ht b (by simp [AV.refs])]
 | aslc b off len esz ag=>simp only [AV.zj]; rw [ht b (by simp [AV.refs])]
 | map b=>simp only [AV.zj]; rw [ht b (by simp [AV.refs])]
 | fn f a b=>simp only [AV.zj]; rw [vA a fun b hb=>ht b (by simp [AV.refs,hb]),vA b fun b hb=>ht b (by simp [AV.refs,hb])]
 | iface t v=>simp only [AV.zj]; rw [Sb v fun b hb=>ht b (by simpa [AV.refs] using hb)]
 | eptr cs off=>simp only [AV.zj]; rw [vA cs fun b hb=>ht b (by simpa [AV.refs] using hb)]
 | agg cs=>simp only [AV.zj]; rw [vA cs fun b hb=>ht b (by simpa [AV.refs] using hb)]
 | tup cs=>simp only [AV.zj]; rw [vA cs fun b hb=>ht b (by simpa [AV.refs] using hb)]
 | _=>rfl
theorem vA {h:Nat->Option Nat} (l:List AV) (ht:∀ b∈AV.zd l,h b=some b):AV.zg h l=l:=by
 cases l with
 | nil=>rfl
 | cons x r=>simp only [AV.zg]; rw [Sb x fun b hb=>ht b (by simp [AV.zd,hb]),vA r fun b hb=>ht b (by simp [AV.zd,hb])]
end
theorem LF {h:Nat->Option Nat} {b:Nat} (hb:self h b=true):h b=some b:=by
 unfold self at hb
 cases hh:h b with
 | none=>simp [hh] at hb
 | some i=>simp only [hh,beq_iff_eq] at hb; rw [hb]
theorem UA {h:Nat->Option Nat} {v:AV} (hv:v.fixed h=true):v.zj h=v :=
 Sb v fun b hb=>LF (List.all_eq_true.1 hv b hb)

mutual
theorem Uo (v:AV) {K K':AV->Prop} (h:∀ x,K x->K' x) (hk:MZ v K):MZ v K':=by
 cases v with
 | int k n=>exact fun n=>h _ (hk n)
 | bool b=>exact fun n=>h _ (hk n)
 | str s=>exact fun n=>h _ (hk n)
 | slc m es=>exact fun n=>h _ (hk n)
 | lit k n=>exact h _ hk
 | tup vs=>exact fun n=>h _ (hk n)
 | agg cs=>exact ke cs (fun _ hx=>h _ hx) hk
 | eptr cs o=>exact ke cs (fun _ hx=>h _ hx) hk
 | iface t v=>exact Uo v (fun _ hx=>h _ hx) hk
 | undef=>exact fun v ht=>h _ (hk v ht)
 | nilif=>exact ⟨h _ hk.1,fun v r=>h _ (hk.2 v r)⟩
 | _=>trivial
theorem ke (l:List AV) {K K':List AV->Prop} (h:∀ x,K x->K' x) (hk:YY l K):YY l K':=by
 cases l with
 | nil=>exact h _ hk
 | cons x r=>exact Uo x (fun v hv=>ke r (fun l hl=>h _ hl) hv) hk
end
mutual
theorem Su (v x:AV) {K:AV->Prop} (hf:vp v x=true) (hk:MZ v K):K x:=by
 cases v with
 | int k n =>
  cases x<;>simp only [vp,decide_eq_true_eq,Bool.false_eq_true] at hf
  subst hf; exact hk _
 | lit k n =>
  cases x<;>simp only [vp,decide_eq_true_eq,Bool.false_eq_true] at hf
  obtain ⟨rfl,rfl⟩:=hf; exact hk
 | bool b=>cases x<;>simp only [vp,Bool.false_eq_true] at hf; exact hk _
 | str s=>cases x<;>simp only [vp,Bool.false_eq_true] at hf; exact hk _
 | slc m es =>
  cases x with
  | slc m' es' =>
   have:m'=3:=by
    unfold vp at hf
    split at hf<;>simp_all
   subst this; exact hk _
  | _=>simp [vp] at hf
 | tup vs=>cases x<;>simp only [vp,Bool.false_eq_true] at hf; exact hk _
 | agg cs =>
  cases x<;>simp only [vp,Bool.false_eq_true] at hf
  exact wj cs _ hf hk
 | eptr cs o =>
  cases x<;>simp only [vp,Bool.false_eq_true,Bool.and_eq_true,decide_eq_true_eq] at hf
  obtain ⟨rfl,hf⟩:=hf
  exact wj (K:=fun l=>K (.eptr l _)) cs _ hf hk
 | iface t v =>
  cases x<;>simp only [vp,Bool.false_eq_true,Bool.and_eq_true,decide_eq_true_eq] at hf
  obtain ⟨rfl,hf⟩:=hf
  exact Su (K:=fun y=>K (.iface _ y)) v _ hf hk
 | undef=>exact hk x (by simpa [vp] using hf)
 | nilif =>
  cases x with
  | slc m es =>
   cases es with
   | nil =>
    cases m with
    | zero=>exact hk.1
    | succ m=>simp [vp] at hf
   | cons v r =>
    have:m=3:=by
     unfold vp at hf
     split at hf<;>simp_all
    subst this; exact hk.2 v r
  | _=>simp [vp] at hf
 | _=>simp [vp] at hf
theorem wj (l xs:List AV) {K:List AV->Prop} (hf:jq l xs=true) (hk:YY l K):K xs:=by
 cases l with
 | nil =>
  cases xs with
  | nil=>exact hk
  | cons _ _=>simp [jq] at hf
 | cons x r =>
  cases xs with
  | nil=>simp [jq] at hf
  | cons y s =>
   simp only [jq,Bool.and_eq_true] at hf
   exact wj r s hf.2 (Su x y hf.1 hk)
end
theorem Nf:∀ (m:Nat) {K K':List (List AV)->Prop},(∀ x,K x->K' x)->MX m K->MX m K':=by
 intro m
 induction m with
 | zero=>intro K K' h hk; exact h _ hk
 | succ m ih=>intro K K' h hk es; exact ih (fun l hl=>h _ hl) (hk es)
theorem MY:∀ (m:Nat) {K:List (List AV)->Prop} (ls:List (List AV)),ls.length=m->MX m K->K ls:=by
 intro m
 induction m with
 | zero=>intro K ls hl hk; have:ls=[]:=List.length_eq_zero_iff.1 hl; subst this; exact hk
 | succ m ih =>
  intro K ls hl hk
  cases ls with
  | nil=>simp at hl
  | cons x r=>exact ih r (by simpa using hl) (hk x)

theorem Jv (sk v:AV):LL sk v=v.norm\/LL sk v=v:=by
 unfold LL; split
 ·exact .inr rfl
 ·exact .inl rfl
theorem TN {Z:St}:∀ {l:List (Nat × AV)} {gs:List AV},WH Z l=some gs->jq (l.map (·.2)) gs=true/\∀ q∈(l.map (·.1)).zip gs,(q.2=(Z.sl.getD q.1 .undef).norm\/q.2=Z.sl.getD q.1 .undef)/\(Z.sl.getD q.1 .undef).tree=true:=by
 intro l
 induction l with
 | nil=>intro gs h; cases h; exact ⟨rfl,by simp⟩
 | cons x r ih =>
  obtain ⟨t,sk⟩:=x
  intro gs h
  simp only [WH] at h
  split at h
  ·rename_i hc
   simp only [Bool.and_eq_true] at hc
   obtain ⟨l,hl,rfl⟩:=Option.map_eq_some_iff.1 h
   obtain ⟨h1,h2⟩:=ih hl
   refine ⟨by simp only [List.map_cons,jq,hc.2,h1,Bool.and_self],fun q hq=>?_⟩
   simp only [List.map_cons,List.zip_cons_cons,List.mem_cons] at hq
   rcases hq with rfl | hq
   ·exact ⟨Jv ..,hc.1⟩
   ·exact h2 q hq
  ·cases h
theorem V4 {Z0 Z:St}:∀ {l:List (Nat × AV)} {bs:List AV},Y3 Z0 Z l=some bs->jq (l.map (·.2)) bs=true /\
  ∀ q∈l.zip bs,∃ x y,Z0.bx.getD q.1.1 none=some x/\Z.bx.getD q.1.1 none=some y/\x.arr=y.arr/\(x.arr=true\/AV.zi y.cs=true)/\q.2=.agg (AV.zb y.cs):=by
 intro l
 induction l with
 | nil=>intro bs h; cases h; exact ⟨rfl,by simp⟩
 | cons x r ih =>
  obtain ⟨b,sk⟩:=x
  intro bs h
  simp only [Y3] at h
  split at h
  ·rename_i x y hx hy
   split at h
   ·rename_i hc
    simp only [Bool.and_eq_true,Bool.or_eq_true,beq_iff_eq] at hc
    obtain ⟨l,hl,rfl⟩:=Option.map_eq_some_iff.1 h
    obtain ⟨h1,h2⟩:=ih hl
    refine ⟨by simp only [List.map_cons,jq,hc.2,h1,Bool.and_self],fun q hq=>?_⟩
    simp only [List.zip_cons_cons,List.mem_cons] at hq
    rcases hq with rfl | hq
    ·exact ⟨x,y,hx,hy,hc.1.1,hc.1.2,rfl⟩
    ·exact h2 q hq
   ·cases h
  ·cases h
def MC (P:Program) (Z:St) (q:Nat × TypeId) (es:List AV):Prop :=
 ((Z.sl.getD q.1 .undef=.slc 0 []\/Z.sl.getD q.1 .undef=.slc 2 [])/\es=[]) \/
 ∃ b x,Z.sl.getD q.1 .undef=.aslc b 0 es.length (P.cellsOf q.2) (yk P q.2)/\Z.bx.getD b none=some x/\x.arr=true/\es.flatMap AV.cells=x.cs
theorem To {P:Program} {Z:St}:∀ {l:List (Nat × TypeId)} {C:List (List AV)->Prop},uV P Z l C->∃ ls,C ls/\ls.length=l.length/\∀ q∈l.zip ls,MC P Z q.1 q.2:=by
 intro l
 induction l with
 | nil=>intro C h; exact ⟨[],h,rfl,by simp⟩
 | cons x r ih =>
  obtain ⟨t,e⟩:=x
  intro C h
  have fin:∀ es,MC P Z (t,e) es->uV P Z r (fun l=>C (es::l))->∃ ls,C ls/\ls.length=r.length+1/\∀ q∈((t,e)::r).zip ls,MC P Z q.1 q.2:=by
   intro es h1 h2
   obtain ⟨ls,h3,h4,h5⟩:=ih h2
   refine ⟨es::ls,h3,by simp [h4],fun q hq=>?_⟩
   simp only [List.zip_cons_cons,List.mem_cons] at hq
   rcases hq with rfl | hq
   ·exact h1
   ·exact h5 q hq
  simp only [uV] at h
  split at h
  ·rename_i hh; exact fin [] (.inl ⟨.inl hh,rfl⟩) h
  ·rename_i hh; exact fin [] (.inl ⟨.inr hh,rfl⟩) h
  ·rename_i b off len esz ag hh
   split at h
   ·rename_i x hx
    split at h
    ·rename_i hc
     simp only [Bool.and_eq_true,beq_iff_eq] at hc
     obtain ⟨⟨⟨ha,rfl⟩,rfl⟩,rfl⟩:=hc
     obtain ⟨es,⟨h1,h2⟩,h3⟩:=h
     subst h1
     exact fin es (.inr ⟨b,x,hh,hx,ha,h2⟩) h3
    ·exact h.elim
   ·exact h.elim
  ·exact h.elim

theorem Qj {entry:Bool} {h:Nat->Option Nat} {skip:Nat->Bool} {Z:St} {C:Prop}:∀ {l:List (Option Bx)} {b0:Nat},uH entry h skip Z b0 l C->C/\∀ (i:Nat) (x:Bx),l[i]?=some (some x)->skip (b0+i)=false ->
  ∃ y,Z.bx.getD (b0+i) none=some y/\y.arr=x.arr/\h (b0+i)=some (b0+i)/\(x.arr=true\/∀ v∈x.cs,v.fixed h=true)/\(entry=false->y.cs=x.cs):=by
 intro l
 induction l with
 | nil=>intro b0 hk; exact ⟨hk,fun i x hi=>by simp at hi⟩
 | cons o r ih =>
  intro b0 hk
  have tail:uH entry h skip Z (b0+1) r C->(∀ x,o=some x->skip b0=false ->
    ∃ y,Z.bx.getD b0 none=some y/\y.arr=x.arr/\h b0=some b0/\(x.arr=true\/∀ v∈x.cs,v.fixed h=true)/\(entry=false->y.cs=x.cs))->C/\∀ (i:Nat) (x:Bx),(o::r)[i]?=some (some x)->skip (b0+i)=false ->
    ∃ y,Z.bx.getD (b0+i) none=some y/\y.arr=x.arr/\h (b0+i)=some (b0+i)/\(x.arr=true\/∀ v∈x.cs,v.fixed h=true)/\(entry=false->y.cs=x.cs):=by
   intro h1 h2
   obtain ⟨h3,h4⟩:=ih h1
   refine ⟨h3,fun i x hi hs=>?_⟩
   cases i with
   | zero=>exact h2 x (by simpa using hi) hs
   | succ i =>
    have:b0+(i+1)=b0+1+i:=by omega
    rw [this] at hs ⊢
    exact h4 i x (by simpa using hi) hs
  cases o with
  | none=>exact tail hk (fun x hx=>by cases hx)
  | some x =>
   simp only [uH] at hk
   split at hk
   ·rename_i hs; exact tail hk (fun y hy hs'=>by rw [hs] at hs'; cases hs')
   ·split at hk
    ·rename_i y hy
     by_cases hc:(y.arr == x.arr && self h b0 && (x.arr || x.cs.all (AV.fixed h)))=true
     ·rw [if_pos hc] at hk
      simp only [Bool.and_eq_true,Bool.or_eq_true,beq_iff_eq] at hc
      have hfx:x.arr=true\/∀ v∈x.cs,v.fixed h=true:=by
       rcases hc.2 with hc | hc
       ·exact .inl hc
       ·exact .inr (List.all_eq_true.1 hc)
      split at hk
      ·rename_i he
       exact tail hk (fun x' hx' _=>by cases hx'; exact ⟨y,hy,hc.1.1,LF hc.1.2,hfx,fun h=>by rw [he] at h; cases h⟩)
      ·exact tail hk.2 (fun x' hx' _=>by cases hx'; exact ⟨y,hy,hc.1.1,LF hc.1.2,hfx,fun _=>hk.1⟩)
     ·rw [if_neg hc] at hk; exact hk.elim
    ·exact hk.elim

theorem wI {α β γ:Type} {f:α->β->γ} {l:List α} {m:List β} {c:γ} (h:c∈List.zipWith f l m):∃ q∈l.zip m,c=f q.1 q.2:=by
 induction l generalizing m with
 | nil=>simp at h
 | cons x r ih =>
  cases m with
  | nil=>simp at h
  | cons y s =>
   simp only [List.zipWith_cons_cons,List.mem_cons] at h
   rcases h with rfl | h
   ·exact ⟨(x,y),by simp,rfl⟩
   ·obtain ⟨q,h1,h2⟩:=ih h
    exact ⟨q,by simp [h1],h2⟩

theorem wA {α:Type} {f:Nat->α->α} {l:List α} {d:α} {t:Nat}:(Wt l f).getD t d=if t<l.length then f t (l.getD t d) else d:=by
 simp only [List.getD,wz]
 by_cases h:t<l.length
 ·simp [h]
 ·simp [h]

theorem L9 {cs:List AV} (h:cs.length≠1):qf cs=none:=by
 match cs with
 | []=>rfl
 | [x]=>exact absurd rfl h
 | x::y::r=>rfl
theorem Qo {h:Nat->Option Nat} {fr:Nat->Prop} {c v:AV} (hr:Ta fr (c.zj h) v) (hm:kS c=none):kS v=none:=by
 rcases hr with rfl | rfl | rfl | ⟨_,b,esz,ag,rfl,_⟩
 ·rfl
 ·rw [XW]; exact hm
 ·rw [VG,XW]; exact hm
 ·rfl
def Q5 (h:Nat->Option Nat) (n:Nat) (Z Z':St):Prop :=
 ((∀ b i,h b=some i->i<n->b=i)/\True/\(∀ b c i,h b=some i->h c=some i->b=c) /\
  (∀ t,Ta (Mb h n) ((Z.sl.getD t .undef).zj h) (Z'.sl.getD t .undef)) /\
  (∀ b' x',Z'.bx.getD b' none=some x'->(∃ b x,h b=some b'/\Z.bx.getD b none=some x/\x'.arr=x.arr/\x'.cs.length=x.cs.length/\qf x'.cs=qf x.cs /\
   ∀ j,if x.arr then P6 (x.cs.getD j .undef) (x'.cs.getD j .undef) else Ta (Mb h n) ((x.cs.getD j .undef).zj h) (x'.cs.getD j .undef))\/(x'.cs=[]/\n<=b'/\∀ b,h b≠some b'))) /\
 Z'.sl.length=Z.sl.length
theorem Q5.z7 {h:Nat->Option Nat} {n:Nat} {Z Z':St} (hw:Q5 h n Z Z'):xQ n Z Z':=⟨⟨h,hw.1⟩,hw.2⟩
theorem Yu {bx:List (Option Bx)} {b off:Nat} {v:AV} {c:Nat}:(Xq bx b off v).getD c none=if c=b then (bx.getD b none).map (fun x=>{ x with cs:=x.cs.set off v }) else bx.getD c none:=by
 unfold Xq
 cases hb:bx.getD b none with
 | none =>
  simp only [Option.map_none]
  split
  ·rename_i hc; rw [hc,hb]
  ·rfl
 | some x =>
  have hlt:b<bx.length:=by
   rcases Nat.lt_or_ge b bx.length with h | h
   ·exact h
   ·simp [List.getD,List.getElem?_eq_none h] at hb
  simp only [Option.map_some,List.getD]
  split
  ·rename_i hc; rw [hc]; simp [hlt]
  ·rename_i hc; rw [List.getElem?_set_ne (Ne.symm hc)]
theorem Lt {h:Nat->Option Nat} {n:Nat} {q:Nat × Nat × TypeId} {Z τ:St} {x:Bx} (hx:Z.bx.getD q.1 none=some x) (ha:x.arr=false) (hm:qf x.cs=none) (ho:q.2.1<x.cs.length) (hq:h q.1=some q.1) (hw:Q5 h n (uI q Z) τ):Q5 h n Z (Yo q τ):=by
 obtain ⟨⟨w1,w2,w3,w4,w5⟩,w6⟩:=hw
 have hl:τ.sl.length=Z.sl.length+1:=by rw [w6]; simp [uI]
 have hdl:(Yo q τ).sl.length=Z.sl.length:=by simp [Yo,hl]
 have hsl:∀ t,t<Z.sl.length->(Yo q τ).sl.getD t .undef=τ.sl.getD t .undef:=by
  intro t ht
  simp only [Yo,List.getD,List.getElem?_take]
  rw [if_pos (by omega)]
 have hlift:∀ t,(uI q Z).sl.getD t .undef=if t<Z.sl.length then Z.sl.getD t .undef else if t=Z.sl.length then XG Z q.1 q.2.1 else .undef:=by
  intro t
  simp only [uI,List.getD,List.getElem?_append]
  split
  ·rfl
  ·rename_i h1
   split
   ·rename_i h2; rw [h2]; simp
   ·rename_i h2
    rw [List.getElem?_eq_none (by simp; omega)]; rfl
 refine ⟨⟨w1,w2,w3,fun t=>?_,fun b' x' hx'=>?_⟩,hdl⟩
 ·rcases Nat.lt_or_ge t Z.sl.length with ht | ht
  ·have:=w4 t
   rw [hlift,if_pos ht] at this
   rw [hsl t ht]; exact this
  ·have e:(Yo q τ).sl.getD t .undef=.undef:=yK (by rw [hdl]; exact ht)
   rw [e]; exact .inl rfl
 ·simp only [Yo] at hx'
  rw [Yu] at hx'
  have hlb:∀ b,(uI q Z).bx.getD b none=if b=q.1 then (Z.bx.getD q.1 none).map (fun x=>{ x with cs:=x.cs.set q.2.1 .undef }) else Z.bx.getD b none:=fun b=>Yu
  split at hx'
  ·rename_i hb
   subst hb
   obtain ⟨y,hy,rfl⟩:=Option.map_eq_some_iff.1 hx'
   rcases w5 q.1 y hy with ⟨b,z,g1,g2,g3,g4,_,g5⟩ | ⟨_,_,g⟩
   ·have hbq:b=q.1:=w3 b q.1 q.1 g1 hq
    subst hbq
    rw [hlb,if_pos rfl,hx] at g2
    cases g2
    have hmv:qf (y.cs.set q.2.1 (τ.sl.getD (τ.sl.length-1) .undef))=qf x.cs:=by
     rw [hm]
     simp only [List.length_set] at g4
     by_cases hl1:x.cs.length=1
     ·have h0:q.2.1=0:=by omega
      have hr:=w4 (τ.sl.length-1)
      rw [hlift,if_neg (by omega),if_pos (by omega)] at hr
      have e2:XG Z q.1 q.2.1=x.cs.getD q.2.1 .undef:=by unfold XG; rw [hx]
      rw [e2,h0] at hr
      match hxc:x.cs,hl1 with
      | [c],_ =>
       rw [hxc] at hr hm
       match hyc:y.cs,(show y.cs.length=1 by rw [g4,hxc]; rfl) with
       | [d],_ =>
        rw [h0]
        show kS _=none
        exact Qo hr hm
     ·exact L9 (by rw [List.length_set,g4]; exact hl1)
    refine .inl ⟨q.1,x,hq,hx,g3,by simpa using g4,hmv,fun j=>?_⟩
    simp only [ha,Bool.false_eq_true,if_false] at g5 ⊢
    simp only [List.length_set] at g4
    by_cases hj:j=q.2.1
    ·subst hj
     have e1:(y.cs.set q.2.1 (τ.sl.getD (τ.sl.length-1) .undef)).getD q.2.1 .undef=τ.sl.getD (τ.sl.length-1) .undef:=by
      simp only [List.getD,List.getElem?_set_self (by omega:q.2.1<y.cs.length),Option.getD_some]
     rw [e1]
     have:=w4 (τ.sl.length-1)
     rw [hlift,if_neg (by omega),if_pos (by omega)] at this
     have e2:XG Z q.1 q.2.1=x.cs.getD q.2.1 .undef:=by unfold XG; rw [hx]
     rw [e2] at this; exact this
    ·have e1:(y.cs.set q.2.1 (τ.sl.getD (τ.sl.length-1) .undef)).getD j .undef=y.cs.getD j .undef:=by
      simp only [List.getD,List.getElem?_set_ne (Ne.symm hj)]
     rw [e1]
     have:=g5 j
     have e2:(x.cs.set q.2.1 .undef).getD j .undef=x.cs.getD j .undef:=by
      simp only [List.getD,List.getElem?_set_ne (Ne.symm hj)]
     rw [e2] at this; exact this
   ·exact absurd hq (g q.1)
  ·rename_i hb
   rcases w5 b' x' hx' with ⟨b,z,g1,g2,g3,g4,g5⟩ | g
   ·have hbq:b≠q.1:=by rintro rfl; rw [hq] at g1; exact hb (Option.some.inj g1).symm
    rw [hlb,if_neg hbq] at g2
    exact .inl ⟨b,z,g1,g2,g3,g4,g5⟩
   ·exact .inr g
theorem Lv {h:Nat->Option Nat} {n:Nat}:∀ (cap:List (Nat × Nat × TypeId)) {Z τ:St},OH h cap Z=true->Q5 h n (jS cap Z) τ->Q5 h n Z (wR cap τ):=by
 intro cap
 induction cap with
 | nil=>intro Z τ _ hw; exact hw
 | cons q r ih =>
  intro Z τ hc hw
  simp only [OH,Bool.and_eq_true] at hc
  obtain ⟨⟨h1,h2⟩,h3⟩:=hc
  split at h1
  ·rename_i x hx
   simp only [Bool.and_eq_true,Bool.not_eq_true',decide_eq_true_eq] at h1
   exact Lt hx h1.1.1 (by simpa using h1.1.2) h1.2 (LF h2) (ih h3 hw)
  ·cases h1
theorem VB:∀ (cap:List (Nat × Nat × TypeId)) (Z:St),(jS cap Z).sl.length=Z.sl.length+cap.length/\∀ t,t<Z.sl.length->(jS cap Z).sl.getD t .undef=Z.sl.getD t .undef:=by
 intro cap
 induction cap with
 | nil=>intro Z; exact ⟨rfl,fun _ _=>rfl⟩
 | cons q r ih =>
  intro Z
  obtain ⟨h1,h2⟩:=ih (uI q Z)
  have hl:(uI q Z).sl.length=Z.sl.length+1:=by simp [uI]
  refine ⟨by simp only [jS,h1,hl,List.length_cons]; omega,fun t ht=>?_⟩
  simp only [jS]
  rw [h2 t (by omega)]
  simp only [uI,List.getD,List.getElem?_append,if_pos ht]
theorem Lu:∀ (cap:List (Nat × Nat × TypeId)) (τ:St),cap.length<=τ.sl.length->(wR cap τ).sl.length=τ.sl.length-cap.length/\∀ t,t<τ.sl.length-cap.length->(wR cap τ).sl.getD t .undef=τ.sl.getD t .undef:=by
 intro cap
 induction cap with
 | nil=>intro τ _; exact ⟨rfl,fun _ _=>rfl⟩
 | cons q r ih =>
  intro τ hl
  simp only [List.length_cons] at hl
  obtain ⟨h1,h2⟩:=ih τ (by omega)
  refine ⟨by simp only [wR,Yo,List.length_take,h1,List.length_cons]; omega,fun t ht=>?_⟩
  simp only [List.length_cons] at ht
  have:=h2 t (by omega)
  simp only [wR,Yo,List.getD,List.getElem?_take]
  rw [if_pos (by omega)]
  exact this

section
variable {P:Program} {n:Nat} {keep D:List Nat} {p:Pat} {Z0 Z:St}

theorem QT {entry:Bool} {C:List AV->Prop} (hlen:Z.sl.length=Z0.sl.length) (hkept:∀ t,t∈keep->t∉D->Z.sl.getD t .undef=Z0.sl.getD t .undef) (hen:entry=true->Z0=Z)
  (hk:Oh P n keep D p entry Z0 Z C):∃ gs ls bs,C (xG gs ls bs)/\jq (p.gen.map (·.2)) gs=true/\ls.length=p.app.length/\jq (p.bgen.map (·.2)) bs=true/\Q5 (p.zG n Z) n Z (qN P n keep D p Z0 gs ls bs):=by
 unfold Oh at hk
 split at hk
 case isFalse=>exact hk.elim
 rename_i hok
 obtain ⟨hk,hkb⟩:=Qj hk
 split at hk
 case h_2=>exact hk.elim
 rename_i gs bs hgs hbs
 obtain ⟨ls,hC,hll,hap⟩:=To hk
 obtain ⟨hfg,hg⟩:=TN hgs
 obtain ⟨hfb,hb⟩:=V4 hbs
 unfold LR at hok
 simp only [Bool.and_eq_true,decide_eq_true_eq,List.all_eq_true] at hok
 obtain ⟨⟨⟨hnd,hsd⟩,hbg⟩,hfx⟩:=hok
 have key:∀ b i,p.zG n Z b=some i->((b,i)∈xf n p Z/\∃ q∈p.app,i=n+q.1/\∃ off len esz ag,Z.sl.getD q.1 .undef=.aslc b off len esz ag)\/(b=i/\∀ q∈p.app,i≠n+q.1):=by
  intro b i hb
  unfold Pat.zG PD at hb
  split at hb
  ·rename_i j hj
   cases hb
   have hm:=qR hj
   refine .inl ⟨hm,?_⟩
   obtain ⟨q,hq1,hq⟩:=List.mem_filterMap.1 hm
   refine ⟨q,hq1,?_⟩
   split at hq
   ·rename_i hh; cases hq; exact ⟨rfl,_,_,_,_,hh⟩
   ·cases hq
  ·split at hb
   ·cases hb
   ·rename_i hn
    cases hb
    refine .inr ⟨rfl,fun q hq h=>hn ?_⟩
    simp only [List.contains_iff_mem,List.mem_map]
    exact ⟨q,hq,h.symm⟩
 refine ⟨gs,ls,bs,hC,hfg,hll,hfb,⟨⟨?_,trivial,?_,?_,?_⟩,?_⟩⟩
 ·intro b i hb hin
  unfold Pat.zG PD at hb
  split at hb
  ·rename_i j hj
   cases hb
   have hm:=qR hj
   exfalso
   obtain ⟨q,_,hq⟩:=List.mem_filterMap.1 hm
   split at hq
   ·cases hq; omega
   ·cases hq
  ·split at hb
   ·cases hb
   ·cases hb; rfl
 ·intro b c i hb hc
  have key:∀ b i,p.zG n Z b=some i->((b,i)∈xf n p Z/\∃ q∈p.app,i=n+q.1/\∃ off len esz ag,Z.sl.getD q.1 .undef=.aslc b off len esz ag)\/(b=i/\∀ q∈p.app,i≠n+q.1):=by
   intro b i hb
   unfold Pat.zG PD at hb
   split at hb
   ·rename_i j hj
    cases hb
    have hm:=qR hj
    refine .inl ⟨hm,?_⟩
    obtain ⟨q,hq1,hq⟩:=List.mem_filterMap.1 hm
    refine ⟨q,hq1,?_⟩
    split at hq
    ·rename_i hh; cases hq; exact ⟨rfl,_,_,_,_,hh⟩
    ·cases hq
   ·split at hb
    ·cases hb
    ·rename_i hn
     cases hb
     refine .inr ⟨rfl,fun q hq h=>hn ?_⟩
     simp only [List.contains_iff_mem,List.mem_map]
     exact ⟨q,hq,h.symm⟩
  rcases key b i hb with ⟨_,q,hq,rfl,_,_,_,_,h1⟩ | ⟨rfl,h1⟩
  ·rcases key c _ hc with ⟨_,q',hq',h2,_,_,_,_,h3⟩ | ⟨_,h3⟩
   ·have:q.1=q'.1:=by omega
    rw [this,h3] at h1
    cases h1; rfl
   ·exact absurd rfl (h3 q hq)
  ·rcases key c _ hc with ⟨_,q',hq',h2,_,_,_,_,h3⟩ | ⟨h2,h3⟩
   ·exact absurd h2 (h1 q' hq')
   ·exact h2.symm
 ·intro t
  simp only [qN]
  rw [wA]
  split
  case isFalse=>exact .inl rfl
  split
  case isFalse=>exact .inl rfl
  rename_i hkt
  simp only [List.contains_iff_mem] at hkt
  split
  ·rename_i v hv
   rcases List.mem_append.1 (qR hv) with hv | hv
   ·obtain ⟨h1,h2⟩:=hg _ hv
    simp only at h1 h2
    rw [Xp _ h2]
    rcases h1 with h1 | h1
    ·rw [h1]; exact .inr (.inr (.inl rfl))
    ·rw [h1]; exact .inr (.inl rfl)
   ·obtain ⟨q,hq,he⟩:=wI hv
    simp only [Prod.mk.injEq] at he
    obtain ⟨rfl,rfl⟩:=he
    rcases hap q hq with ⟨h1,h2⟩ | ⟨b,x,h1,h2,h3,h4⟩
    ·rw [h2]
     refine .inr (.inr (.inr ⟨?_,_,_,_,rfl,Nat.le_add_right _ _,fun c hc=>?_⟩))
     ·rcases h1 with h1 | h1<;>rw [h1]
      ·exact .inl rfl
      ·exact .inr rfl
     ·have hqa:=(List.of_mem_zip hq).1
      rcases key c _ hc with ⟨_,q',hq',e1,_,_,_,_,h3⟩ | ⟨_,h3⟩
      ·have e2:q'.1=q.1.1:=by omega
       rw [e2] at h3
       rcases h1 with h1 | h1<;>· rw [h1] at h3; cases h3
      ·exact h3 q.1 hqa rfl
    ·rw [h1]
     refine .inr (.inl ?_)
     have hin:(b,n+q.1.1)∈xf n p Z:=List.mem_filterMap.2 ⟨q.1,(List.of_mem_zip hq).1,by rw [h1]⟩
     have:p.zG n Z b=some (n+q.1.1):=by
      unfold Pat.zG PD
      cases hl:(xf n p Z).lookup b with
      | none=>exact absurd rfl (uK hl _ hin)
      | some j =>
       have hm:=qR hl
       rw [U3 hsd hm hin]
     simp only [AV.zj,this]
  ·split
   ·exact .inl rfl
   ·rename_i hD
    simp only [List.contains_iff_mem] at hD
    have h1:=hkept t hkt hD
    have h2:=hfx t hkt
    simp only [Bool.or_eq_true,List.contains_iff_mem,hD,false_or] at h2
    rw [<- h1] at h2
    rw [UA h2,h1]
    exact .inr (.inl rfl)
 ·intro b' x' hx'
  simp only [qN] at hx'
  rw [wA] at hx'
  split at hx'
  case isFalse=>cases hx'
  rename_i hblt
  split at hx'
  ·rename_i y hy
   cases hx'
   rcases List.mem_append.1 (qR hy) with hv | hv
   ·obtain ⟨q,hq,he⟩:=wI hv
    simp only [Prod.mk.injEq] at he
    obtain ⟨rfl,rfl⟩:=he
    rcases hap q hq with ⟨h1,h2⟩ | ⟨b,x,h1,h2,h3,h4⟩
    ·refine .inr ⟨by simp [h2],by omega,fun b hb=>?_⟩
     unfold Pat.zG PD at hb
     split at hb
     ·rename_i j hj
      cases hb
      obtain ⟨q',hq',he⟩:=List.mem_filterMap.1 (qR hj)
      split at he
      ·rename_i hh
       simp only [Option.some.injEq,Prod.mk.injEq] at he
       have:q'.1=q.1.1:=by omega
       rw [this] at hh
       rcases h1 with h1 | h1<;>(rw [h1] at hh; cases hh)
      ·cases he
     ·split at hb
      ·cases hb
      ·rename_i hn
       cases hb
       exact hn (by simp only [List.contains_iff_mem,List.mem_map]; exact ⟨q.1,(List.of_mem_zip hq).1,rfl⟩)
    ·have hin:(b,n+q.1.1)∈xf n p Z:=List.mem_filterMap.2 ⟨q.1,(List.of_mem_zip hq).1,by rw [h1]⟩
     have hhb:p.zG n Z b=some (n+q.1.1):=by
      unfold Pat.zG PD
      cases hl:(xf n p Z).lookup b with
      | none=>exact absurd rfl (uK hl _ hin)
      | some j =>
       have hm:=qR hl
       rw [U3 hsd hm hin]
     refine .inl ⟨b,x,hhb,h2,h3.symm,by rw [h4],by rw [h4],fun j=>?_⟩
     rw [if_pos h3,h4]
     exact .inr (.inl rfl)
   ·obtain ⟨q,hq,he⟩:=wI hv
    simp only [Prod.mk.injEq] at he
    obtain ⟨rfl,rfl⟩:=he
    obtain ⟨x,y,h1,h2,h3,h4,h5⟩:=hb q hq
    rw [h1,h5]
    have hhb:=LF (hbg q.1 (List.of_mem_zip hq).1)
    refine .inl ⟨q.1.1,y,hhb,h2,h3,by simp [AV.cells,yy],by simp only [AV.cells]; exact xa _,fun j=>?_⟩
    simp only [AV.cells,yW]
    split
    ·exact .inr (.inr rfl)
    ·rename_i ha
     have:AV.zi y.cs=true:=by
      rcases h4 with h4 | h4
      ·rw [h3] at h4; exact absurd h4 ha
      ·exact h4
     rw [Xp _ (qT this j)]
     exact .inr (.inr (.inl rfl))
  ·rename_i hnone
   split at hx'
   ·cases hx'
   ·rename_i hns
    have hskip:((p.bgen.map (·.1)).contains b' || (p.app.map fun q=>n+q.1).contains b' || (xf n p Z0).any (fun q=>q.1 == b'))=false:=by
     rw [Bool.or_eq_false_iff,Bool.or_eq_false_iff]
     have hno:=uK hnone
     refine ⟨⟨?_,?_⟩,by rw [<- Bool.not_eq_true]; exact hns⟩
     ·rw [Bool.eq_false_iff]
      intro hc
      simp only [List.contains_iff_mem,List.mem_map] at hc
      obtain ⟨q,hq,rfl⟩:=hc
      have hbl:p.bgen.length=bs.length:=by simpa using uC _ _ hfb
      obtain ⟨i,hi,hqi⟩:=List.getElem_of_mem hq
      unfold LQ at hno
      have:=hno _ (List.mem_append_right _ (List.getElem_mem (n:=i) (by simp only [List.length_zipWith]; omega)))
      simp only [List.getElem_zipWith,hqi,ne_eq,not_true_eq_false] at this
     ·rw [Bool.eq_false_iff]
      intro hc
      simp only [List.contains_iff_mem,List.mem_map] at hc
      obtain ⟨q,hq,rfl⟩:=hc
      obtain ⟨i,hi,hqi⟩:=List.getElem_of_mem hq
      refine hno (n+q.1,⟨q.2,true,(ls[i]'(by omega)).flatMap AV.cells⟩) (List.mem_append_left _ ?_) rfl
      rw [List.mem_iff_getElem]
      refine ⟨i,by simp; omega,?_⟩
      simp only [List.getElem_zipWith,hqi]
    have hl:Z0.bx[b']?=some (some x'):=by
     simp only [List.getD] at hx'
     rw [List.getElem?_eq_getElem hblt] at hx' ⊢
     simpa using hx'
    obtain ⟨y,h1,h2,h3,h4,h5⟩:=hkb b' x' hl (by rw [Nat.zero_add]; exact hskip)
    rw [Nat.zero_add] at h1 h3
    have h5:y.cs=x'.cs:=by
     cases entry with
     | false=>exact h5 rfl
     | true =>
      rw [hen rfl,h1] at hx'
      cases hx'; rfl
    refine .inl ⟨b',y,h3,h1,h2.symm,by rw [h5],by rw [h5],fun j=>?_⟩
    rw [h5]
    split
    ·exact .inr (.inl rfl)
    ·rename_i ha
     rcases h4 with h4 | h4
     ·rw [h2] at ha; exact absurd h4 ha
     ·rcases Nat.lt_or_ge j x'.cs.length with hj | hj
      ·have:=h4 (x'.cs.getD j .undef) (by simp only [List.getD,List.getElem?_eq_getElem hj,Option.getD_some]; exact List.getElem_mem hj)
       rw [UA this]
       exact .inr (.inl rfl)
      ·rw [yK hj]; exact .inl rfl
 ·simp only [qN,uL]; exact hlen.symm
end

def CD (ctl:Ctl) (c:Code) (t:Nat):Prop:=t∈ctl.dsts c\/t∉ctl.keep
theorem Xa {ctl:Ctl} {a b:Code} {t:Nat}:(t∈ctl.dsts a->t∈uy a++uy b++(ctl.fz.filter fun q=>decide (q.2<1000000000)).map (fun q=>q.2 % 1000000))/\(t∈ctl.dsts b->t∈uy a++uy b++(ctl.fz.filter fun q=>decide (q.2<1000000000)).map (fun q=>q.2 % 1000000)):=by
 simp only [Ctl.dsts,List.mem_append]
 exact ⟨fun h=>h.elim (fun h=>.inl (.inl h)) .inr,fun h=>h.elim (fun h=>.inl (.inr h)) .inr⟩
theorem Li (keep:List Nat) (Z:St):FrD (fun t=>t∉keep) Z (clean keep Z):=by
 refine ⟨by simp [clean,uL],fun t ht=>?_⟩
 simp only [clean]
 rw [wA]
 split
 ·rw [if_pos (by simpa using ht)]
 ·rename_i hl; rw [yK (by omega)]

section
variable {P:Program} {S:Specs} {n:Nat}
theorem NR {keep D:List Nat} {p:Pat} {Z:St} {gs:List AV} {ls:List (List AV)} {bs:List AV} (hp:xK D p=true) :
  FrD (fun t=>t∈D\/t∉keep) Z (qN P n keep D p Z gs ls bs):=by
 refine ⟨by simp [qN,uL],fun t ht=>?_⟩
 simp only [not_or,Classical.not_not] at ht
 simp only [qN]
 rw [wA]
 split
 case isFalse=>rename_i hl; rw [yK (by omega)]
 rw [if_pos (by simpa using ht.2)]
 split
 ·rename_i v hv
  exfalso
  unfold xK at hp
  rw [List.all_eq_true] at hp
  have:t∈p.gen.map (·.1)++p.app.map (·.1):=by
   rcases List.mem_append.1 (qR hv) with hv | hv
   ·exact List.mem_append_left _ (List.of_mem_zip hv).1
   ·obtain ⟨q,hq,he⟩:=wI hv
    simp only [Prod.mk.injEq] at he
    exact List.mem_append_right _ (List.mem_map.2 ⟨q.1,(List.of_mem_zip hq).1,he.1.symm⟩)
  have:=hp t this
  simp only [List.contains_iff_mem] at this
  exact ht.1 this
 ·rw [if_neg (by simpa using ht.1)]
theorem PE {keep D:List Nat} {p:Pat} {Z:St} {C C':List AV->St->Prop} (h:∀ gs ls bs,C (xG gs ls bs) (qN P n keep D p Z gs ls bs)->C' (xG gs ls bs) (qN P n keep D p Z gs ls bs)) (hk:S5 P n keep D p Z C):S5 P n keep D p Z C' :=
 ke _ (fun _ hk=>Nf _ (fun _ hk=>ke _ (fun _ hk=>h _ _ _ hk) hk) hk) hk
theorem NQ {keep D:List Nat} {p:Pat} {Z:St} {C:List AV->St->Prop} {gs:List AV} {ls:List (List AV)} {bs:List AV} (h1:jq (p.gen.map (·.2)) gs=true) (h2:ls.length=p.app.length) (h3:jq (p.bgen.map (·.2)) bs=true)
  (hk:S5 P n keep D p Z C):C (xG gs ls bs) (qN P n keep D p Z gs ls bs):=by
 unfold S5 at hk
 have h4:=wj _ _ h1 hk
 have h5:=MY _ _ h2 h4
 exact wj _ _ h3 h5

theorem Ms {k t:Nat} {Z:St} {K K':St->Prop} (h:∀ Z',FrD (fun i=>i=t) Z Z'->K Z'->K' Z') (hk:VV k t Z K):VV k t Z K':=by
 unfold VV at hk ⊢
 generalize Z.sl.getD t .undef=v at hk ⊢
 cases v with
 | int kd j=>exact ⟨hk.1,KI hk.2 fun m hm=>h _ ⟨by simp,fun i hi=>by simp only [List.getD,List.getElem?_set_ne (Ne.symm hi)]⟩ hm⟩
 | _=>exact h _ (.refl ..) hk
theorem Vr {nm:Bool} {off c:Nat} {Z:St} {K K':St->Prop} (h:∀ Z',FrD (fun _=>False) Z Z'->K Z'->K' Z') (hk:vU nm n off c Z K):vU nm n off c Z K':=by
 have h0:=h _ (.refl ..)
 unfold vU at hk ⊢
 generalize Z.bx.getD c none=y at hk ⊢
 cases y with
 | none=>exact h0 hk
 | some x =>
  dsimp only at hk ⊢
  split at hk
  ·rename_i ha
   rw [if_pos ha]; exact h0 hk
  ·rename_i ha
   rw [if_neg ha]
   generalize x.cs.getD off .undef=v at hk ⊢
   cases v with
   | aslc b o len esz ag =>
    dsimp only at hk ⊢
    generalize Z.zh b=z at hk ⊢
    cases z with
    | none=>exact hk.elim
    | some cs =>
     dsimp only at hk ⊢
     split at hk
     ·rename_i hc
      rw [if_pos hc]
      exact uT (fun hk=>VM (fun es hk=>h ⟨Z.sl,_⟩ ⟨rfl,fun _ _=>rfl⟩ hk) hk) hk
     ·exact hk.elim
   | _=>exact h0 hk
theorem Lk {off c:Nat} {Z:St} {K K':St->Prop} (h:∀ Z',FrD (fun _=>False) Z Z'->K Z'->K' Z') (hk:Uv off c Z K):Uv off c Z K':=by
 have h0:=h _ (.refl ..)
 unfold Uv at hk ⊢
 generalize Z.bx.getD c none=y at hk ⊢
 cases y with
 | none=>exact h0 hk
 | some x =>
  dsimp only at hk ⊢
  split at hk
  ·rename_i ha
   rw [if_pos ha]; exact h0 hk
  ·rename_i ha
   rw [if_neg ha]
   generalize x.cs.getD off .undef=v at hk ⊢
   cases v with
   | slc m es =>
    cases m with
    | zero=>exact h0 hk
    | succ m =>
     obtain ⟨v,r,he,hk⟩:=hk
     exact ⟨v,r,he,h ⟨Z.sl,_⟩ ⟨rfl,fun _ _=>rfl⟩ hk⟩
   | aslc b o len esz ag =>
    obtain ⟨k,he,hk⟩:=hk
    exact ⟨k,he,h ⟨Z.sl,_⟩ ⟨rfl,fun _ _=>rfl⟩ hk⟩
   | _=>exact h0 hk
theorem O5 {l:List AV} {t:Nat} {v:AV} (h:l.getD t .undef=v):l.set t v=l:=by
 apply List.ext_getElem?
 intro i
 rw [List.getElem?_set]
 split
 ·rename_i hi
  subst hi
  split
  ·rename_i hl; rw [List.getElem?_eq_getElem hl,<- h]; simp [List.getD,hl]
  ·rename_i hl; rw [List.getElem?_eq_none (by omega)]
 ·rfl
theorem Qv {t:Nat} {Z:St} {K:St->Prop} (h:Hb t Z K):K Z/\∀ K':St->Prop,(K Z->K' Z)->Hb t Z K':=by
 rcases h with ⟨h1,h2⟩ | ⟨v,r,h1,h2⟩
 ·have e:({ Z with sl:=Z.sl.set t (.slc 0 []) }:St)=Z:=by rw [O5 h1]
  rw [e] at h2
  exact ⟨h2,fun K' hK=>.inl ⟨h1,by rw [e]; exact hK h2⟩⟩
 ·have e:({ Z with sl:=Z.sl.set t (.slc 3 (v::r)) }:St)=Z:=by rw [O5 h1]
  rw [e] at h2
  exact ⟨h2,fun K' hK=>.inr ⟨v,r,h1,by rw [e]; exact hK h2⟩⟩
theorem YG:∀ {ts:List Nat} {Z:St} {K K':St->Prop},(∀ Z',FrD (fun i=>∃ t∈ts,t<1000000000/\i=t % 1000000) Z Z'->K Z'->K' Z')->qj n ts Z K->qj n ts Z K':=by
 intro ts
 induction ts with
 | nil=>intro Z K K' h hk; exact h _ (.refl ..) hk
 | cons t r ih =>
  intro Z K K' h hk
  have rest:∀ τ,FrD (fun i=>t<1000000000/\i=t % 1000000) Z τ->qj n r τ K->qj n r τ K':=fun τ hf hk =>
   ih (fun υ hf' hk=>h _ ((hf.weak fun i hi=>⟨t,List.mem_cons_self ..,hi⟩).trans (hf'.weak fun i ⟨q,hq,he⟩=>⟨q,List.mem_cons_of_mem _ hq,he⟩)) hk) hk
  simp only [qj] at hk ⊢
  split at hk
  ·rename_i h90
   rw [if_pos h90]
   exact (Qv hk).2 _ fun hk=>rest _ (.refl ..) hk
  rename_i h90
  rw [if_neg h90]
  split at hk
  ·rename_i hlt
   rw [if_pos hlt]
   exact YF (fun τ hf hk=>rest τ (hf.weak fun i hi=>⟨by omega,by rw [hi,Nat.mod_eq_of_lt hlt]⟩) hk) hk
  ·rename_i hlt
   rw [if_neg hlt]
   split at hk
   ·rename_i hlt2
    rw [if_pos hlt2]
    split at hk
    ·rename_i h9
     rw [if_pos h9]
     exact YF (fun τ hf hk=>rest τ (hf.weak fun i hi=>⟨hlt2,hi⟩) hk) hk
    ·rename_i h9
     rw [if_neg h9]
     exact Ms (fun τ hf hk=>rest τ (hf.weak fun i hi=>⟨hlt2,hi⟩) hk) hk
   ·rename_i hlt2
    rw [if_neg hlt2]
    split at hk
    ·rename_i h9
     rw [if_pos h9]
     exact Vr (fun τ hf hk=>rest τ (hf.weak fun i hi=>hi.elim) hk) hk
    ·rename_i h9
     rw [if_neg h9]
     split at hk
     ·rename_i h8
      rw [if_pos h8]
      exact Lk (fun τ hf hk=>rest τ (hf.weak fun i hi=>hi.elim) hk) hk
     ·rename_i h8
      rw [if_neg h8]
      exact Vr (fun τ hf hk=>rest τ (hf.weak fun i hi=>hi.elim) hk) hk
theorem Nt {L:Nat} {cap:List (Nat × Nat × TypeId)} {t:Nat} (h:t∈qG L cap):L<=t:=by
 unfold qG at h
 obtain ⟨i,_,rfl⟩:=List.mem_map.1 h
 omega
theorem Kn {D:List Nat} {p:Pat} {L:Nat} (h:xK D p=true):xK (D++qG L p.cap) (p.up L)=true:=by
 unfold xK at h ⊢
 simp only [List.all_eq_true,List.contains_iff_mem,List.mem_append,Pat.up] at h ⊢
 intro t ht
 rcases ht with ht | ht
 ·exact .inl (h t (.inl ht))
 ·rw [List.map_append,List.mem_append] at ht
  rcases ht with ht | ht
  ·exact .inl (h t (.inr ht))
  ·obtain ⟨q,hq,rfl⟩:=List.mem_map.1 ht
   obtain ⟨r,hr,rfl⟩:=wI hq
   exact .inr (List.of_mem_zip hr).1
theorem KU {p:Pat} {L:Nat}:(p.up L).app.length=p.app.length+p.cap.length:=by
 simp [Pat.up,qG]
theorem kA {keep D:List Nat} {p:Pat} {Z:St} {gs:List AV} {ls:List (List AV)} {bs:List AV} (hp:xK D p=true) :
  FrD (fun t=>t∈D\/t∉keep) Z (wR p.cap (qN P n (keep++qG Z.sl.length p.cap) (D++qG Z.sl.length p.cap) (p.up Z.sl.length) (jS p.cap Z) gs ls bs)):=by
 obtain ⟨l1,l2⟩:=VB p.cap Z
 have hf:=NR (P:=P) (n:=n) (keep:=keep++qG Z.sl.length p.cap) (Z:=jS p.cap Z) (gs:=gs) (ls:=ls) (bs:=bs) (Kn (L:=Z.sl.length) hp)
 obtain ⟨d1,d2⟩:=Lu p.cap (qN P n (keep++qG Z.sl.length p.cap) (D++qG Z.sl.length p.cap) (p.up Z.sl.length) (jS p.cap Z) gs ls bs) (by rw [hf.1,l1]; omega)
 refine ⟨by rw [d1,hf.1,l1]; omega,fun t ht=>?_⟩
 simp only [not_or,Classical.not_not] at ht
 rcases Nat.lt_or_ge t Z.sl.length with hl | hl
 ·rw [d2 t (by rw [hf.1,l1]; omega),hf.2 t ?_,l2 t hl]
  rintro (h | h)
  ·rcases List.mem_append.1 h with h | h
   ·exact ht.1 h
   ·have:=Nt h; omega
  ·exact h (List.mem_append_left _ ht.2)
 ·rw [yK (by rw [d1,hf.1,l1]; omega),yK hl]
theorem kg {keep D:List Nat} {p:Pat} {Z:St} {C C':List AV->St->Prop}
  (h:∀ gs ls bs,C (xG gs ls bs) (wR p.cap (qN P n (keep++qG Z.sl.length p.cap) (D++qG Z.sl.length p.cap) (p.up Z.sl.length) (jS p.cap Z) gs ls bs)) ->
   C' (xG gs ls bs) (wR p.cap (qN P n (keep++qG Z.sl.length p.cap) (D++qG Z.sl.length p.cap) (p.up Z.sl.length) (jS p.cap Z) gs ls bs))) (hk:jO P n keep D p Z C):jO P n keep D p Z C':=by
 unfold jO at *
 exact PE h hk
theorem qw {keep D:List Nat} {p:Pat} {Z0 Z:St} {entry:Bool} {C:List AV->Prop} (hlen:Z.sl.length=Z0.sl.length) (hkept:∀ t,t∈keep->t∉D->Z.sl.getD t .undef=Z0.sl.getD t .undef) (hen:entry=true->Z0=Z)
  (hk:qa P n keep D p entry Z0 Z C):∃ gs ls bs,C (xG gs ls bs)/\jq (p.gen.map (·.2)) gs=true/\ls.length=p.app.length+p.cap.length/\jq (p.bgen.map (·.2)) bs=true /\
   xQ n Z (wR p.cap (qN P n (keep++qG Z0.sl.length p.cap) (D++qG Z0.sl.length p.cap) (p.up Z0.sl.length) (jS p.cap Z0) gs ls bs)):=by
 unfold qa at hk
 dsimp only at hk
 split at hk
 case isFalse=>exact hk.elim
 rename_i hc
 obtain ⟨a1,a2⟩:=VB p.cap Z
 obtain ⟨b1,b2⟩:=VB p.cap Z0
 obtain ⟨gs,ls,bs,h1,h2,h3,h4,h5⟩:=QT (by rw [a1,b1,hlen]) (fun t ht hd=>by
  simp only [List.mem_append,not_or] at ht hd
  rcases ht with ht | ht
  ·rcases Nat.lt_or_ge t Z0.sl.length with hl | hl
   ·rw [a2 t (by omega),b2 t hl]; exact hkept t ht hd.1
   ·by_cases hl2:t<Z0.sl.length+p.cap.length
    ·exact absurd (List.mem_map.2 ⟨t-Z0.sl.length,List.mem_range.2 (by omega),by omega⟩) hd.2
    ·rw [yK (by rw [a1]; omega),yK (by rw [b1]; omega)]
  ·exact absurd ht hd.2) (fun he=>by rw [hen he]) hk
 refine ⟨gs,ls,bs,h1,h2,?_,h4,(Lv p.cap hc h5).z7⟩
 rw [h3,KU]
theorem j6 {keep D:List Nat} {p:Pat} {Z:St} {C:List AV->St->Prop} {gs:List AV} {ls:List (List AV)} {bs:List AV} (h1:jq (p.gen.map (·.2)) gs=true) (h2:ls.length=p.app.length+p.cap.length) (h3:jq (p.bgen.map (·.2)) bs=true)
  (hk:jO P n keep D p Z C):C (xG gs ls bs) (wR p.cap (qN P n (keep++qG Z.sl.length p.cap) (D++qG Z.sl.length p.cap) (p.up Z.sl.length) (jS p.cap Z) gs ls bs)) :=
 by
 unfold jO at hk
 exact NQ (p:=p.up Z.sl.length) h1 (by rw [h2,KU]) h3 hk
theorem uD {l:List AV}:∀ (ts:List Nat) (t:Nat),t∉ts->(ts.foldl (fun l t=>l.set t .undef) l).getD t .undef=l.getD t .undef:=by
 intro ts
 induction ts generalizing l with
 | nil=>intro t _; rfl
 | cons x r ih =>
  intro t ht
  simp only [List.mem_cons,not_or] at ht
  simp only [List.foldl_cons]
  rw [ih t ht.2]
  simp only [List.getD,List.getElem?_set_ne (Ne.symm ht.1)]
theorem xV {l:List AV}:∀ (ts:List Nat),(ts.foldl (fun l t=>l.set t .undef) l).length=l.length:=by
 intro ts
 induction ts generalizing l with
 | nil=>rfl
 | cons x r ih=>simp only [List.foldl_cons,ih,List.length_set]
theorem LS {h:Hook} {Z:St} {K K':St->Prop} (hK:∀ Z',FrD (fun t=>t∈h.outs++h.clob) Z Z'->K Z'->K' Z') (hk:UI h Z K):UI h Z K':=by
 unfold UI at *
 split at hk
 ·exact hk.elim
 rename_i hall
 rw [if_neg hall]
 split at hk
 ·rename_i d _ _ _
  split at hk
  ·obtain ⟨L,h1,h2⟩:=hk
   refine ⟨L,h1,hK _ ⟨?_,fun t ht=>?_⟩ h2⟩
   ·simp only [St.put,YH,List.length_set,xV]
   ·have hd:d∈h.outs++h.clob:=List.mem_append_left _ (by rename_i ho _ _ _ _ _; simp_all)
    have hne:d≠t:=fun e=>ht (e▸hd)
    simp only [St.put,YH]
    rw [List.getD_eq_getElem?_getD,List.getElem?_set_ne hne,<- List.getD_eq_getElem?_getD,uD _ _ ht]
  ·exact hk.elim
 ·exact hk.elim
theorem K5 (hI:jy S.inl) {ctl:Ctl}:∀ (c:Code) (sk:Nat) {n:Nat} {Z:St} {K K':Ex->St->Prop},(∀ e Z',FrD (CD ctl c) Z Z'->K e Z'->K' e Z')->qB P S ctl c sk n Z K->qB P S ctl c sk n Z K':=by
 intro c
 induction c with
 | skip=>intro sk n Z K K' h hk; exact h _ _ (.refl ..) hk
 | region id ops draw =>
  intro sk n Z K K' h hk
  have hc:∀ τ Z',FrD (fun i=>∃ t∈ctl.zE id,t<1000000000/\i=t % 1000000) Z τ->FrD (Yf (qc ops.toList)) τ Z'->FrD (CD ctl (.region id ops draw)) Z (clean ctl.keep Z'):=fun τ Z' hz hf =>
   ((hz.weak fun t ⟨u,hu,hlt,ht⟩=>.inl (List.mem_append_right _ (by obtain ⟨q,hq,he⟩:=List.mem_map.1 hu; exact List.mem_map.2 ⟨q,List.mem_filter.2 ⟨(List.mem_filter.1 hq).1,by rw [he]; exact decide_eq_true hlt⟩,by rw [he,ht]⟩))).trans
   (hf.weak fun t ht=>.inl (List.mem_append_left _ (List.mem_filterMap.2 (by obtain ⟨o,ho,he⟩:=List.mem_map.1 ht; exact ⟨o,ho,he⟩))))).trans ((Li ctl.keep Z').weak fun t ht=>.inr ht)
  cases draw with
  | true =>
   simp only [qB,w8,kf] at hk ⊢
   refine YG (fun τ hz hk=>?_) hk
   split at hk
   ·rename_i hc2
    rw [if_pos hc2]
    exact Lr hI (fun Z' hf hk=>h _ _ (hc τ Z' hz hf) hk) hk
   ·exact hk.elim
  | false =>
   simp only [qB,w8] at hk ⊢
   refine YG (fun τ hz hk=>?_) hk
   split at hk
   ·rename_i hm
    rw [if_pos hm]
    exact M0 hI _ (fun o ho=>List.mem_map.2 ⟨o,ho,rfl⟩) (fun Z' hf hk=>h _ _ (hc τ Z' hz hf) hk) hk
   rename_i hm
   rw [if_neg hm]
   exact K3 hI _ (fun o ho=>List.mem_map.2 ⟨o,ho,rfl⟩) (fun Z' hf hk=>h _ _ (hc τ Z' hz hf) hk) hk
 | seq a b iha ihb =>
  intro sk n Z K K' h hk
  have ha:∀ {Z Z'},FrD (CD ctl a) Z Z'->FrD (CD ctl (.seq a b)) Z Z':=fun hf=>hf.weak fun t ht=>ht.imp Xa.1 id
  have hb:∀ {Z Z'},FrD (CD ctl b) Z Z'->FrD (CD ctl (.seq a b)) Z Z':=fun hf=>hf.weak fun t ht=>ht.imp Xa.2 id
  simp only [qB] at hk ⊢
  by_cases hsk:sk≠0
  ·rw [if_pos hsk] at hk ⊢
   exact ihb _ (fun e Z' hf hk=>h _ _ (hb hf) hk) hk
  rw [if_neg hsk] at hk ⊢
  split at hk
  ·rename_i hh hho
   split at hk
   case isFalse=>exact hk.elim
   rename_i hall
   rw [if_pos hall]
   refine LS (fun Z' hf hk=>ihb _ (fun e Z'' hf' hk=>h _ _ ?_ hk) hk) hk
   exact FrD.trans (hf.weak fun t ht=>.inl (List.elem_iff.1 (List.all_eq_true.1 hall t ht))) (hb hf')
  split at hk
  ·rename_i p hp
   unfold OU at hk ⊢
   split at hk
   case isFalse=>exact hk.elim
   rename_i hin
   rw [if_pos hin]
   obtain ⟨J,h1,h2⟩:=hk
   refine ⟨J,iha 0 (fun e Z' hf hk=>?_) h1,kg (fun gs ls bs hk hj=>ihb 0 (fun e Z' hf hk=>h _ _ ?_ hk) (hk hj)) h2⟩
   ·cases e with
    | normal=>exact hk
    | exit i=>exact h _ _ (ha hf) hk
    | ret=>exact h _ _ (ha hf) hk
   ·exact (ha (kA hin)).trans (hb hf)
  ·refine iha 0 (fun e Z' hf hk=>?_) hk
   cases e with
   | normal=>exact ihb 0 (fun e Z'' hf' hk=>h _ _ ((ha hf).trans (hb hf')) hk) hk
   | exit i=>exact h _ _ (ha hf) hk
   | ret=>exact h _ _ (ha hf) hk
 | cond c a b iha ihb =>
  intro sk n Z K K' h hk
  have ha:∀ {Z Z'},FrD (CD ctl a) Z Z'->FrD (CD ctl (.cond c a b)) Z Z':=fun hf=>hf.weak fun t ht=>ht.imp Xa.1 id
  have hb:∀ {Z Z'},FrD (CD ctl b) Z Z'->FrD (CD ctl (.cond c a b)) Z Z':=fun hf=>hf.weak fun t ht=>ht.imp Xa.2 id
  simp only [qB] at hk ⊢
  split at hk
  ·exact iha 0 (fun e Z' hf hk=>h _ _ (ha hf) hk) hk
  ·exact ihb 0 (fun e Z' hf hk=>h _ _ (hb hf) hk) hk
  ·exact Y5 (iha 0 (fun e Z' hf hk=>h _ _ (ha hf) hk)) (ihb 0 (fun e Z' hf hk=>h _ _ (hb hf) hk)) hk
  ·exact hk.elim
 | block id b ih =>
  intro sk n Z K K' h hk
  simp only [qB] at hk ⊢
  refine ih 0 (fun e Z' hf hk=>?_) hk
  cases e with
  | normal=>exact h _ _ hf hk
  | exit i =>
   simp only at hk ⊢
   split at hk
   ·rename_i hi; rw [if_pos hi]; exact h _ _ hf hk
   ·rename_i hi; rw [if_neg hi]; exact h _ _ hf hk
  | ret=>exact h _ _ hf hk
 | loop b ih =>
  intro sk n Z K K' h hk
  simp only [qB] at hk ⊢
  split at hk
  ·rename_i p hp
   unfold OZ at hk ⊢
   split at hk
   case isFalse=>exact hk.elim
   rename_i hin
   rw [if_pos hin]
   obtain ⟨I,h1,h2⟩:=hk
   refine ⟨I,h1,fun m=>kg (fun gs ls bs hk hj=>ih 0 (fun e Z' hf hk=>?_) (hk hj)) (h2 m)⟩
   have hff:FrD (CD ctl (.loop b)) Z Z':=(FrD.weak (kA hin) fun t ht=>ht).trans (hf.weak fun t ht=>ht)
   cases e with
   | normal=>exact hk
   | exit i=>exact h _ _ hff hk
   | ret=>exact h _ _ hff hk
  ·have key:∀ (m:Nat) {Z1:St},FrD (CD ctl (.loop b)) Z Z1->Qg (qB P S ctl b 0 n) m Z1 K->Qg (qB P S ctl b 0 n) m Z1 K':=by
    intro m
    induction m with
    | zero=>intro Z1 _ hk; exact hk.elim
    | succ m ihm =>
     intro Z1 h1 hk
     refine ih 0 (fun e Z2 hf hk=>?_) hk
     have hff:FrD (CD ctl (.loop b)) Z Z2:=h1.trans (hf.weak fun t ht=>ht)
     cases e with
     | normal=>exact ihm hff hk
     | exit i=>exact h _ _ hff hk
     | ret=>exact h _ _ hff hk
   exact key 8 (.refl ..) hk
 | exit id=>intro sk n Z K K' h hk; exact h _ _ (.refl ..) hk
 | ret=>intro sk n Z K K' h hk; exact h _ _ (.refl ..) hk
 | rangeFunc g ps x y ihx ihy =>
  intro sk n Z K K' h hk
  simp only [qB] at hk ⊢
  split at hk
  case h_2=>exact hk.elim
  rename_i p hp
  split at hk
  case isFalse=>exact hk.elim
  rename_i hnr
  rw [if_pos hnr]
  unfold T9 at hk ⊢
  split at hk
  case h_2=>exact hk.elim
  split at hk
  case h_2=>exact hk.elim
  split at hk
  case isFalse=>exact hk.elim
  rename_i hc
  rw [if_pos hc]
  simp only [Bool.and_eq_true] at hc
  have hin:xK [] p=true:=hc.2
  obtain ⟨xs,h1,hway⟩:=hk
  have h0:∀ (sl:List AV) (bx bx':List (Option Bx)),FrD (CD ctl (.rangeFunc g ps x y)) Z ⟨sl,bx⟩->FrD (CD ctl (.rangeFunc g ps x y)) Z ⟨sl,bx'⟩:=fun sl bx bx' hf=>⟨hf.1,hf.2⟩
  have hs0:FrD (CD ctl (.rangeFunc g ps x y)) Z ⟨(Se g++(ctl.fz.filter (fun q:Nat × Nat=>decide (q.2<1000000000))).map (fun q:Nat × Nat=>q.2 % 1000000)).foldl (fun l t=>l.set t .undef) Z.sl,Z.bx⟩:=by
   refine ⟨xV _,fun t ht=>uD _ t fun hm=>ht (.inl ?_)⟩
   rcases List.mem_append.1 hm with hm | hm
   case inr=>exact List.mem_append_right _ hm
   refine List.mem_append_left _ ?_
   unfold Se at hm
   cases g with
   | tmp q=>simp only [List.mem_singleton] at hm; subst hm; simp [uy]
   | _=>simp at hm
  have round:∀ {τ:St} {x1:List AV} {N N':St->Prop},FrD (CD ctl (.rangeFunc g ps x y)) Z τ->(∀ bx,N ⟨τ.sl,bx⟩->N' ⟨τ.sl,bx⟩) ->
    (if yA τ && decide (n<=τ.bx.length) then (fun τ K'=>qB P S ctl x 0 (τ.bx.length-τ.sl.length) τ fun e Za=>match e with
     | .normal=>if yA Za && (List.range (τ.bx.length-τ.sl.length)).all (fun b=>qk τ.bx b == qk Za.bx b) then qB P S ctl y 0 Za.bx.length (Za.more (Za.sl.length+8)) K' else False
     | _=>False) ⟨jT τ.sl ps.toList x1,τ.bx++List.replicate τ.sl.length none⟩ (fun e Z1=>if qC n τ.bx Z1.bx then (match e with
      | .normal=>N ⟨τ.sl,Z1.bx⟩
      | e=>K e ⟨τ.sl,Z1.bx⟩) else False) else False) ->
    (if yA τ && decide (n<=τ.bx.length) then (fun τ K'=>qB P S ctl x 0 (τ.bx.length-τ.sl.length) τ fun e Za=>match e with
     | .normal=>if yA Za && (List.range (τ.bx.length-τ.sl.length)).all (fun b=>qk τ.bx b == qk Za.bx b) then qB P S ctl y 0 Za.bx.length (Za.more (Za.sl.length+8)) K' else False
     | _=>False) ⟨jT τ.sl ps.toList x1,τ.bx++List.replicate τ.sl.length none⟩ (fun e Z1=>if qC n τ.bx Z1.bx then (match e with
      | .normal=>N' ⟨τ.sl,Z1.bx⟩
      | e=>K' e ⟨τ.sl,Z1.bx⟩) else False) else False):=by
   intro τ x1 N N' hfr hN hk
   split at hk
   ·rename_i hl
    rw [if_pos hl]
    refine ihx 0 (fun e Za _ hk=>?_) hk
    cases e with
    | normal =>
     dsimp only at hk ⊢
     split at hk
     ·rename_i hl2
      rw [if_pos hl2]
      refine ihy 0 (fun e Z1 _ hk=>?_) hk
      split at hk
      case isFalse=>exact hk.elim
      rename_i hbk
      rw [if_pos hbk]
      cases e with
      | normal=>exact hN _ hk
      | exit i=>exact h _ _ (h0 _ _ _ hfr) hk
      | ret=>exact h _ _ (h0 _ _ _ hfr) hk
     ·exact hk.elim
    | exit i=>exact hk.elim
    | ret=>exact hk.elim
   ·exact hk.elim
  refine ⟨xs,h1,?_⟩
  dsimp only at hway ⊢
  split at hway
  ·rename_i hun
   rw [if_pos hun]
   obtain ⟨h2,hnil,I,h3,h4,h5⟩:=hway
   refine ⟨h2,fun he=>h _ _ (h0 _ _ _ hs0) (hnil he),I,ke _ (fun z hk hz=>?_) h3,fun i=>ke _ (fun z hk hz=>kg (fun gs ls bs hk hj=>?_) (hk hz)) (h4 i),kg (fun gs ls bs hk hj=>h _ _ ?_ (hk hj)) h5⟩
   ·exact round (N:=fun τ'=>qa P n ctl.keep [] _ false _ τ' (I 1)) (N':=fun τ'=>qa P n ctl.keep [] _ false _ τ' (I 1)) (h0 _ _ _ hs0) (fun bx hk=>hk) (hk hz)
   ·exact round (N:=fun τ'=>qa P n ctl.keep [] _ false _ τ' (I (i+2))) (N':=fun τ'=>qa P n ctl.keep [] _ false _ τ' (I (i+2))) ((h0 _ _ _ hs0).trans ((kA (p:=p.res n _) hin).weak fun t ht=>ht.elim (fun h=>by cases h) .inr)) (fun bx hk=>hk) (hk hj)
   ·exact (h0 _ _ _ hs0).trans ((kA (p:=p.res n _) hin).weak fun t ht=>ht.elim (fun h=>by cases h) .inr)
  rename_i hpl
  rw [if_neg hpl]
  split at hway
  ·rename_i hun
   rw [if_pos hun]
   refine ⟨hway.1,?_⟩
   have key:∀ (ys:List (List AV)) (τ:St),FrD (CD ctl (.rangeFunc g ps x y)) Z τ->YO n ps.toList (fun τ K'=>qB P S ctl x 0 (τ.bx.length-τ.sl.length) τ fun e Za=>match e with
     | .normal=>if yA Za && (List.range (τ.bx.length-τ.sl.length)).all (fun b=>qk τ.bx b == qk Za.bx b) then qB P S ctl y 0 Za.bx.length (Za.more (Za.sl.length+8)) K' else False
     | _=>False) K ys τ->YO n ps.toList (fun τ K'=>qB P S ctl x 0 (τ.bx.length-τ.sl.length) τ fun e Za=>match e with
     | .normal=>if yA Za && (List.range (τ.bx.length-τ.sl.length)).all (fun b=>qk τ.bx b == qk Za.bx b) then qB P S ctl y 0 Za.bx.length (Za.more (Za.sl.length+8)) K' else False
     | _=>False) K' ys τ:=by
    intro ys
    induction ys with
    | nil=>intro τ hfr hk; exact h _ _ hfr hk
    | cons z r ih=>intro τ hfr hk; exact round hfr (fun bx hk=>ih _ (h0 _ _ _ hfr) hk) hk
   exact key _ _ (h0 _ _ _ hs0) hway.2
  rename_i hun
  rw [if_neg hun]
  obtain ⟨h2,I,h3,h4,h5⟩:=hway
  refine ⟨h2,I,h3,fun i=>ke _ (fun z hk hz=>kg (fun gs ls bs hk hj=>?_) (hk hz)) (h4 i),kg (fun gs ls bs hk hj=>h _ _ ?_ (hk hj)) h5⟩
  ·exact round (N:=fun τ'=>qa P n ctl.keep [] _ false _ τ' (I (i+1))) (N':=fun τ'=>qa P n ctl.keep [] _ false _ τ' (I (i+1))) ((h0 _ _ _ hs0).trans ((kA (p:=p.res n _) hin).weak fun t ht=>ht.elim (fun h=>by cases h) .inr)) (fun bx hk=>hk) (hk hj)
  ·exact (h0 _ _ _ hs0).trans ((kA (p:=p.res n _) hin).weak fun t ht=>ht.elim (fun h=>by cases h) .inr)
 | scope b _=>intro sk n Z K K' h hk; exact hk.elim
 | label l=>intro sk n Z K K' h hk; exact hk.elim
 | goto l=>intro sk n Z K K' h hk; exact hk.elim
 | refuse s=>intro sk n Z K K' h hk; exact hk.elim

theorem Tr (hI:jy S.inl) {ctl:Ctl} (c:Code) {n:Nat} {Z:St} {K K':Ex->St->Prop} (h:∀ e Z',FrD (CD ctl c) Z Z'->K e Z'->K' e Z') (hk:awp P S n ctl c Z K):awp P S n ctl c Z K':=K5 hI c 0 h hk

theorem PM (hI:jy S.inl) {ctl:Ctl} {b:Code} {K:Ex->St->Prop}:∀ {m k:Nat} {Z:St},m<=k->UO n (awp P S n ctl b) m Z K->UO n (awp P S n ctl b) k Z K:=by
 intro m
 induction m with
 | zero=>intro k Z _ h; exact h.elim
 | succ m ih =>
  intro k Z hk h
  cases k with
  | zero=>omega
  | succ k =>
   refine Tr hI b (fun e Z' _ h=>?_) h
   cases e with
   | normal=>obtain ⟨Z'',hw,h⟩:=h; exact ⟨Z'',hw,ih (by omega) h⟩
   | exit i=>exact h
   | ret=>exact h

theorem PS (hI:jy S.inl) {ctl:Ctl} {b:Code} {p:Pat} {Z:St} {K:Ex->St->Prop} (h:OZ P n ctl.keep (ctl.dsts b) p (awp P S n ctl b) Z K):∃ Z',xQ n Z Z'/\∃ m,UO n (awp P S n ctl b) m Z' K:=by
 unfold OZ at h
 split at h
 case isFalse=>exact h.elim
 rename_i hin
 obtain ⟨I,h1,h2⟩:=h
 have key:∀ (m:Nat) (gs:List AV) (ls:List (List AV)) (bs:List AV),I m (xG gs ls bs)->jq (p.gen.map (·.2)) gs=true->ls.length=p.app.length+p.cap.length->jq (p.bgen.map (·.2)) bs=true ->
   UO n (awp P S n ctl b) (m+1) (wR p.cap (qN P n (ctl.keep++qG Z.sl.length p.cap) (ctl.dsts b++qG Z.sl.length p.cap) (p.up Z.sl.length) (jS p.cap Z) gs ls bs)) K:=by
  intro m
  induction m using Nat.strongRecOn with
  | _ m ih =>
   intro gs ls bs hI' h3 h4 h5
   refine Tr hI b (fun e Z' hf hk=>?_) (j6 h3 h4 h5 (h2 m) hI')
   cases e with
   | exit i=>exact hk
   | ret=>exact hk
   | normal =>
    have hff:=(kA (P:=P) (n:=n) (keep:=ctl.keep) (Z:=Z) (gs:=gs) (ls:=ls) (bs:=bs) hin).trans (hf.weak fun t ht=>ht)
    obtain ⟨gs',ls',bs',⟨k,hk,hI'⟩,h3,h4,h5,hw⟩:=qw hff.1 (fun t h1 h2=>hff.2 t (by simp only [not_or,Classical.not_not]; exact ⟨h2,h1⟩)) (by simp) hk
    exact ⟨_,hw,PM hI (by omega) (ih k hk gs' ls' bs' hI' h3 h4 h5)⟩
 obtain ⟨gs,ls,bs,⟨m,hI'⟩,h3,h4,h5,hw⟩:=qw rfl (fun _ _ _=>rfl) (fun _=>rfl) h1
 exact ⟨_,hw,_,key m gs ls bs hI' h3 h4 h5⟩
theorem NY (hI:jy S.inl) {ctl:Ctl} {a:Code} {g:St->(Ex->St->Prop)->Prop} {p:Pat} {k:Nat} {Z:St} {K:Ex->St->Prop} (h:OU P n ctl.keep (ctl.dsts a) p (fun Z K'=>awp P S n ctl a Z fun e Z=>match e with
   | .normal=>qj n (ctl.zE k) Z fun Z=>K' .normal Z
   | e=>K' e Z) g Z K) :
  awp P S n ctl a Z fun e Z1=>match e with
   | .normal=>qj n (ctl.zE k) Z1 fun Z1=>∃ Z',xQ n Z1 Z'/\g Z' K
   | e=>K e Z1:=by
 unfold OU at h
 split at h
 case isFalse=>exact h.elim
 rename_i hin
 obtain ⟨J,h1,h2⟩:=h
 refine Tr hI a (fun e Z' hf hk=>?_) h1
 cases e with
 | exit i=>exact hk
 | ret=>exact hk
 | normal =>
  refine YG (fun τ hz hk=>?_) hk
  have hf:=hf.trans (hz.weak (D':=CD ctl a) fun t ⟨u,hu,hlt,ht⟩=>.inl (List.mem_append_right _ (by obtain ⟨q,hq,he⟩:=List.mem_map.1 hu; exact List.mem_map.2 ⟨q,List.mem_filter.2 ⟨(List.mem_filter.1 hq).1,by rw [he]; exact decide_eq_true hlt⟩,by rw [he,ht]⟩)))
  obtain ⟨gs,ls,bs,hJ,h3,h4,h5,hw⟩:=qw hf.1 (fun t h1 h2=>hf.2 t (by simp only [CD,not_or,Classical.not_not]; exact ⟨h2,h1⟩)) (by simp) hk
  exact ⟨_,hw,j6 h3 h4 h5 h2 hJ⟩
end
end Go.Proofs.YtdeeekgohhkdbaaGreatDoor

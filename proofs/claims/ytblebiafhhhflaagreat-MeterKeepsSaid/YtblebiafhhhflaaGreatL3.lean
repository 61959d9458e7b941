/- What is followed may be followed to more; and slots that code does not write are as they were. Heads of loops and joins: what is known there is less than what was known before. Loops by what holds at their heads; paths that join. -/
import Derived.Test.YtblebiafhhhflaaGreatW0
namespace Go.Proofs.YtblebiafhhhflaaGreat
open Go.RowKit

def FrD (D:Nat → Prop) (σ σ':St):Prop:=σ'.sl.length = σ.sl.length ∧ ∀ t,¬ D t → σ'.sl.getD t .undef = σ.sl.getD t .undef
theorem FrD.refl (D:Nat → Prop) (σ:St):FrD D σ σ:=⟨rfl,fun _ _ => rfl⟩
theorem FrD.trans {D:Nat → Prop} {σ τ υ:St} (h:FrD D σ τ) (h':FrD D τ υ):FrD D σ υ:=⟨h'.1.trans h.1,fun t ht => (h'.2 t ht).trans (h.2 t ht)⟩
theorem FrD.weak {D D':Nat → Prop} {σ τ:St} (h:FrD D σ τ) (hd:∀ t,D t → D' t):FrD D' σ τ:=⟨h.1,fun t ht => h.2 t fun hh => ht (hd t hh)⟩
def Dst (d:Option Nat) (t:Nat):Prop:=d = some t
theorem FrD.put (σ:St) (d:Option Nat) (v:AV):FrD (Dst d) σ (σ.put d v):=by
 cases d with
 | none => exact .refl ..
 | some d =>
  refine ⟨by simp [St.put],fun t ht => ?_⟩
  have:d ≠ t:=fun h => ht (by rw [h]; rfl)
  simp only [St.put,List.getD,List.getElem?_set_ne this]
theorem FrD.bx (σ:St) (D:Nat → Prop) (bx:List (Option Bx)):FrD D σ { σ with bx:=bx }:=⟨rfl,fun _ _ => rfl⟩

theorem Ang.mono {α:Type} {F:(α → Prop) → Prop} (hF:Ang F) {K K':α → Prop} (h:∀ v,K v → K' v) (hk:F K):F K':=by
 obtain ⟨v,h1,h2⟩:=hF K hk
 exact h2 K' (h v h1)
theorem withOK_mono {g:Nat → Option (List AV)} {l:List (Nat × Nat × Nat × Bool)} {K K':Prop} (h:K → K') (hk:withOK g l K):withOK g l K':=by
 obtain ⟨h1,h2⟩:=withOK_ang hk
 exact h2 g K' (fun _ _ => rfl) (h h1)

mutual
theorem forceV_eq:∀ (v:AV) (k:AV → Prop),forceV v k = k v
 | .undef,_ | .tt,_ | .ff,_ | .bool _,_ | .lit _ _,_ | .int _ _,_ | .str _,_ | .nilp,_ | .ref _ _,_ | .slc _ _,_ | .aslc _ _ _ _ _,_ | .nilfn,_ | .nilif,_ | .map _,_ | .nilmap,_ | .yld _,_ => by simp only [forceV]
 | .eptr cs off,k => by simp only [forceV,forceVs_eq cs]
 | .fn f a c,k => by simp only [forceV,forceVs_eq a,forceVs_eq c]
 | .iface t v,k => by simp only [forceV,forceV_eq v]
 | .agg cs,k => by simp only [forceV,forceVs_eq cs]
 | .tup cs,k => by simp only [forceV,forceVs_eq cs]
theorem forceVs_eq:∀ (l:List AV) (k:List AV → Prop),forceVs l k = k l
 | [],_ => by simp only [forceVs]
 | x :: r,k => by simp only [forceVs,forceV_eq x,forceVs_eq r]
end
theorem forceSl_eq (keep:List Nat):∀ (l:List AV) (i:Nat) (k:List AV → Prop),forceSl keep i l k = k (mapFrom (fun j v => if keep.contains j then v else .undef) i l):=by
 intro l
 induction l with
 | nil => intro i k; rfl
 | cons x r ih =>
  intro i k
  simp only [forceSl,forceV_eq,ih,mapFrom]
  split <;> rfl
theorem forceBx_eq:∀ (l:List (Option Bx)) (k:List (Option Bx) → Prop),forceBx l k = k l:=by
 intro l
 induction l with
 | nil => intro k; rfl
 | cons x r ih =>
  intro k
  cases x with
  | none => simp only [forceBx,ih]
  | some x =>
   obtain ⟨t,a,cs⟩:=x
   cases a <;> simp only [forceBx,ih,forceVs_eq]
theorem cleanK_eq (keep:List Nat) (σ:St) (K:St → Prop):cleanK keep σ K = K (clean keep σ):=by
 simp only [cleanK,forceSl_eq,forceBx_eq,clean,mapI]

section
variable {P:Program} {S:Specs} {n:Nat}
theorem mkBox_mf {d:Nat} {x:Bx} {p:AV} {σ:St} {K K':St → Prop} (h:∀ σ',FrD (Dst (some d)) σ σ' → K σ' → K' σ') (hk:mkBox n d x p σ K):mkBox n d x p σ K':=by
 unfold mkBox at *
 split at hk
 ·rename_i hc; rw [if_pos hc]
  exact h _ ((FrD.put σ (some d) p).trans (.bx _ _ _)) hk
 ·exact hk.elim
theorem callA_mf {f:FuncId} {args:List AV} {d:Option Nat} {σ:St} {K K':St → Prop} (h:∀ σ',FrD (Dst d) σ σ' → K σ' → K' σ') (hk:callA P S n f args d σ K):callA P S n f args d σ K':=by
 unfold callA at *
 dsimp only at *
 split at hk
 case h_2 => exact hk.elim
 rename_i bs fn hb hf
 try simp only [hb,hf]
 split at hk
 ·exact hk.elim
 rename_i hc
 rw [if_neg hc]
 refine withOK_mono (fun hk => ?_) hk
 refine exAlt_ang.mono (fun v hk => ?_) hk
 refine (exBoxesW_ang _).mono (fun O hk => ⟨hk.1,?_⟩) hk
 have hk:=hk.2
 split at hk
 ·rename_i h1; rw [if_pos h1]; exact h _ ((FrD.bx σ _ _).trans (.put _ d _)) hk
 ·rename_i h1
  rw [if_neg h1]
  split at hk
  ·rename_i h2; rw [if_pos h2]; exact h _ ((FrD.bx σ _ _).trans (.put _ d _)) hk
  ·exact hk.elim
def InlMf (il:InlF):Prop:=∀ f args σ (K K':AV → St → Prop),(∀ v σ',σ'.sl = σ.sl → K v σ' → K' v σ') → il f args σ K → il f args σ K'
theorem callX_mf (hI:InlMf S.inl) {f:FuncId} {args:List AV} {d:Option Nat} {σ:St} {K K':St → Prop} (h:∀ σ',FrD (Dst d) σ σ' → K σ' → K' σ') (hk:callX P S n f args d σ K):callX P S n f args d σ K':=by
 unfold callX at *
 split at hk
 ·rename_i hc
  rw [if_pos hc]
  refine hI f args σ _ _ (fun v σ' hsl hk => ?_) hk
  split at hk
  ·rename_i hb
   rw [if_pos hb]
   refine h _ ?_ hk
   have:FrD (Dst d) σ σ':=⟨by rw [hsl],fun t _ => by rw [hsl]⟩
   exact this.trans (.put _ d _)
  ·exact hk.elim
 ·rename_i hc
  rw [if_neg hc]
  exact callA_mf h hk
theorem mutR_mono {ts:List TypeId} {b len:Nat} {K K':Nat → AV → Prop} (h:∀ k v,K k v → K' k v) (hk:mutR ts b len K):mutR ts b len K':=by
 unfold mutR at *
 split at hk
 ·exact h _ _ hk
 ·obtain ⟨m,h1,h2⟩:=hk
  exact ⟨m,h1,h _ _ h2⟩
 ·exact hk.elim
theorem mutA_mf {f:FuncId} {b len:Nat} {d:Option Nat} {σ:St} {K K':St → Prop} (h:∀ σ',FrD (Dst d) σ σ' → K σ' → K' σ') (hk:mutA P S f b len d σ K):mutA P S f b len d σ K':=by
 unfold mutA at *
 split at hk
 ·split at hk
  ·rename_i hx ha
   try simp only [hx]
   rw [if_pos ha]
   refine mutR_mono (fun k v hq => ?_) hk
   obtain ⟨zs,zs',h1,h2⟩:=hq
   refine ⟨zs,zs',h1,h _ ?_ h2⟩
   have:FrD (Dst d) σ { σ with bx:=σ.bx.set b (some { (by assumption:Bx) with cs:=zs'.map (AV.int .i64) }) }:=⟨rfl,fun t _ => rfl⟩
   exact FrD.trans ⟨rfl,fun t _ => rfl⟩ (.put _ d _)
  ·exact hk.elim
 ·exact hk.elim
theorem callF_mf {f:FuncId} {args:List AV} {d:Option Nat} {σ:St} {K K':St → Prop} (h:∀ σ',FrD (Dst d) σ σ' → K σ' → K' σ') (hk:callF P S n f args d σ K):callF P S n f args d σ K':=by
 unfold callF at *
 split at hk
 ·rename_i b len hm
  try simp only [hm]
  exact mutA_mf h hk
 rename_i hm
 try simp only [hm]
 split at hk
 ·split at hk
  ·rename_i ht
   obtain ⟨es,h1,h2⟩:=hk
   try simp only
   rw [if_pos ht]
   exact ⟨es,h1,mkBox_mf h h2⟩
  ·exact hk.elim
 ·exact hk.elim
theorem callG_mf {f:FuncId} {args:List AV} {d:Option Nat} {σ:St} {K K':St → Prop} (h:∀ σ',FrD (Dst d) σ σ' → K σ' → K' σ') (hk:callG P S n f args d σ K):callG P S n f args d σ K':=by
 unfold callG at *
 split at hk
 ·rename_i hc
  try simp only [hc]
  split at hk
  ·split at hk
   ·rename_i h1 h2 h3
    try simp only [h1,h2,h3]
    exact ⟨hk.1,h _ (.put σ d _) hk.2⟩
   ·exact hk.elim
  ·exact hk.elim
 ·rename_i hc
  try simp only [hc]
  exact callF_mf h hk
theorem loadA_mono {t:TypeId} {σ:St} {x:AV} {K K':AV → Prop} (h:∀ v,K v → K' v) (hk:loadA P t σ x K):loadA P t σ x K':=by
 obtain ⟨v,h1,h2⟩:=loadA_local hk
 exact h2 σ (fun _ _ => rfl) K' (h v h1)
theorem storeA_mf {t:TypeId} {σ:St} {a v:AV} {K K':St → Prop} (h:∀ σ',FrD (fun _ => False) σ σ' → K σ' → K' σ') (hk:storeA P t σ a v K):storeA P t σ a v K':=by
 obtain ⟨b,x,_,_,h1,h2⟩:=storeA_local hk
 exact h2 σ (fun _ _ => rfl) K' (h _ (.bx _ _ _) h1)
theorem sliceA_mono {t:TypeId} {σ:St} {x:AV} {lo hi mx:Option AV} {K K':AV → Prop} (h:∀ v,K v → K' v) (hk:sliceA P t σ x lo hi mx K):sliceA P t σ x lo hi mx K':=by
 unfold sliceA at *
 repeat' split at hk
 all_goals first
  | exact hk.elim
  | (simp_all; done)
  | (obtain ⟨h1,h2⟩:=hk; simp_all; done)
  | (obtain ⟨⟨h0,h1,h1'⟩,h2⟩:=hk; subst h1; simp_all; done)
theorem withCells_mono {k:Nat} {σ:St} {x:AV} {K K':Nat → List AV → Prop} (h:∀ m l,K m l → K' m l) (hk:withCells σ k x K):withCells σ k x K':=by
 unfold withCells at *
 split at hk
 ·exact ⟨hk.1,h _ _ hk.2⟩
 ·split at hk
  ·rename_i hb; (try simp only [hb]); exact ⟨hk.1,h _ _ hk.2⟩
  ·exact hk.elim
 ·exact hk.elim
theorem appendA_mf {ts:List TypeId} {s x:AV} {d:Nat} {σ:St} {K K':St → Prop} (h:∀ σ',FrD (Dst (some d)) σ σ' → K σ' → K' σ') (hk:appendA P n ts s x d σ K):appendA P n ts s x d σ K':=by
 unfold appendA at *
 split at hk
 ·split at hk
  ·rename_i h1 h2
   try simp only [h1,h2]
   split at hk
   ·exact hk.elim
   ·rename_i hc
    rw [if_neg hc]
    refine withCells_mono (fun m l hk => ?_) hk
    split at hk
    ·exact ⟨hk.1,mkBox_mf h hk.2⟩
    ·exact ⟨hk.1,mkBox_mf h hk.2⟩
    ·split at hk
     ·rename_i hb
      try simp only [hb]
      split at hk
      ·rename_i h3; rw [if_pos h3]; exact ⟨hk.1,mkBox_mf (fun σ' h1 h2 => h σ' (.trans ⟨rfl,fun _ _ => rfl⟩ h1) h2) hk.2⟩
      ·exact hk.elim
     ·exact hk.elim
    ·exact hk.elim
  ·exact hk.elim
 ·exact hk.elim

theorem lookupA_mono {t:TypeId} {σ:St} {m k:AV} {ok:Bool} {K K':AV → Prop} (h:∀ v,K v → K' v) (hk:lookupA P t σ m k ok K):lookupA P t σ m k ok K':=by
 unfold lookupA at *
 split at hk
 ·split at hk
  ·split at hk
   ·exact ⟨hk.1,hk.2.1,(exT_ang _).mono (fun v ⟨f,h1,h2⟩ => ⟨f,h1,h _ h2⟩) hk.2.2⟩
   ·exact hk.elim
  ·exact hk.elim
 ·exact hk.elim
theorem putA_mf {t:TypeId} {σ:St} {m k v:AV} {K K':St → Prop} (h:∀ σ',FrD (fun _ => False) σ σ' → K σ' → K' σ') (hk:putA P t σ m k v K):putA P t σ m k v K':=by
 unfold putA at *
 split at hk
 ·split at hk
  ·split at hk
   ·split at hk
    ·rename_i hc
     try simp only
     rw [if_pos hc]
     obtain ⟨h1,h2,es',h3,h4⟩:=hk
     exact ⟨h1,h2,es',h3,h _ (.bx _ _ _) h4⟩
    ·exact hk.elim
   ·exact hk.elim
  ·exact hk.elim
 ·exact hk.elim
theorem mkMap_mf {d:Nat} {t:TypeId} {σ:St} {K K':St → Prop} (h:∀ σ',FrD (Dst (some d)) σ σ' → K σ' → K' σ') (hk:mkMap n d t σ K):mkMap n d t σ K':=by
 unfold mkMap at *
 split at hk
 ·rename_i hc; rw [if_pos hc]
  exact h _ ((FrD.put σ (some d) _).trans (.bx _ _ _)) hk
 ·exact hk.elim
theorem aop_mf (hI:InlMf S.inl) {o:Oper} {σ:St} {K K':St → Prop} (h:∀ σ',FrD (Dst o.dst) σ σ' → K σ' → K' σ') (hk:aop P S n o σ K):aop P S n o σ K':=by
 have hp:∀ v,K (σ.put o.dst v) → K' (σ.put o.dst v):=fun v => h _ (.put σ o.dst v)
 unfold aop at *
 split at hk
 ·split at hk
  ·rename_i hd _; rw [hd] at h; exact mkBox_mf h hk
  ·exact hk.elim
 ·split at hk
  ·rename_i hd
   split at hk
   ·rename_i hc; (try simp only); rw [if_pos hc]; rw [hd] at h; exact mkBox_mf h hk
   ·exact hk.elim
  ·exact hk.elim
 ·split at hk
  ·split at hk
   ·split at hk
    ·rename_i hc
     try simp only
     rw [if_pos hc]
     split at hk
     ·split at hk
      ·rename_i hc2
       rw [if_pos hc2]
       split at hk
       ·rename_i d hd
        have hd:o.dst = some d:=by
         unfold ownD at hd
         split at hd
         ·rename_i d' hd'; split at hd <;> simp_all
         ·cases hd
        rw [hd] at h; exact mkBox_mf h hk
       ·exact hp _ hk
      ·exact hk.elim
     ·exact hk.elim
    ·exact hk.elim
   ·exact hk.elim
  ·exact hk.elim
 ·split at hk
  ·rename_i hd _; rw [hd] at h; exact mkMap_mf h hk
  ·exact hk.elim
 ·exact lookupA_mono (fun v hk => hp v hk) hk
 ·exact putA_mf (fun σ' h1 h2 => h _ ((h1.weak fun _ => False.elim).trans (.put σ' o.dst _)) h2) hk
 ·exact loadA_mono (fun v hk => hp v hk) hk
 ·exact storeA_mf (fun σ' h1 h2 => h _ ((h1.weak fun _ => False.elim).trans (.put σ' o.dst _)) h2) hk
 ·exact indexAddrA_ang.mono (fun v hk => hp v hk) hk
 ·exact indexA_ang.mono (fun v hk => hp v hk) hk
 ·exact sliceA_mono (fun v hk => hp v hk) hk
 ·split at hk
  ·exact hp _ hk
  ·split at hk
   ·exact hp _ hk
   ·exact hk.elim
 ·split at hk
  ·rename_i hd
   split at hk
   ·split at hk
    ·rename_i hc
     try simp only
     rw [if_pos hc]
     rw [hd] at h
     exact ⟨hk.1,mkBox_mf h hk.2⟩
    ·exact hk.elim
   ·exact hk.elim
  ·exact hk.elim
 ·exact divA_ang.mono (fun v hk => hp v hk) hk
 ·exact divA_ang.mono (fun v hk => hp v hk) hk
 ·exact divA_ang.mono (fun v hk => hp v hk) hk
 ·exact divA_ang.mono (fun v hk => hp v hk) hk
 ·split at hk
  ·exact fun b hb => hp _ (hk b hb)
  ·split at hk
   ·exact hp _ hk
   ·exact hk.elim
 ·split at hk
  ·split at hk
   ·rename_i hc; rw [if_pos hc]; exact callG_mf h hk
   ·rename_i hc; rw [if_neg hc]; exact callX_mf hI h hk
  ·split at hk
   ·exact callX_mf hI h hk
   ·exact hk.elim
  ·split at hk
   ·split at hk
    ·rename_i hm; (try simp only [hm]); exact callX_mf hI h hk
    ·exact hk.elim
   ·exact hk.elim
  ·split at hk
   ·rename_i hs hd; rw [hd] at h; (try simp only [hs]); exact appendA_mf h hk
   ·exact hk.elim
  ·split at hk
   ·exact hp _ hk
   ·exact hk.elim
 ·split at hk
  ·exact hp _ hk
  ·exact hk.elim

theorem br_mono {b:Bool} {A A' B B':Prop} (ha:A → A') (hb:B → B') (h:br b A B):br b A' B':=⟨fun x => ha (h.1 x),fun x => hb (h.2 x)⟩
def DstL (l:List (Option Nat)) (t:Nat):Prop:=some t ∈ l
theorem aops_mf (hI:InlMf S.inl) {dsts:List (Option Nat)}:∀ (ops:List Oper) {σ:St} {K K':St → Prop},(∀ o ∈ ops,o.dst ∈ dsts) → (∀ σ',FrD (DstL dsts) σ σ' → K σ' → K' σ') → aops P S n dsts ops σ K → aops P S n dsts ops σ K':=by
 intro ops
 induction ops with
 | nil => intro σ K K' _ h hk; exact h _ (.refl ..) hk
 | cons o r ih =>
  intro σ K K' hd h hk
  have hr:∀ o ∈ r,o.dst ∈ dsts:=fun x hx => hd x (List.mem_cons_of_mem _ hx)
  have hdo:∀ t,Dst o.dst t → DstL dsts t:=fun t ht => by have:=hd o (by simp); rw [show o.dst = some t from ht] at this; exact this
  have step:∀ σ1,FrD (DstL dsts) σ σ1 → aops P S n dsts r σ1 K → aops P S n dsts r σ1 K':=fun σ1 h1 hk => ih hr (fun σ' h2 hk => h σ' (h1.trans h2) hk) hk
  have stepO:∀ σ1,FrD (DstL dsts) σ σ1 → (aop P S n o σ1 fun σ => aops P S n dsts r σ K) → (aop P S n o σ1 fun σ => aops P S n dsts r σ K'):=fun σ1 h1 hk => aop_mf hI (fun σ' h2 hk => step σ' (h1.trans (h2.weak hdo)) hk) hk
  have hput:∀ σ1 v,FrD (DstL dsts) σ σ1 → FrD (DstL dsts) σ (σ1.put o.dst v):=fun σ1 v h1 => h1.trans ((FrD.put σ1 o.dst v).weak hdo)
  unfold aops at hk ⊢
  split at hk
  ·exact stepO _ (.refl ..) hk
  ·rename_i j want hg
   split at hk
   ·rename_i d hj
    have hgd:∀ v,FrD (DstL dsts) σ (σ.put (some d) v):=fun v => (FrD.put σ (some d) v).weak (fun t ht => by cases ht; exact List.mem_of_getElem? hj)
    split at hk
    ·split at hk
     ·rename_i hw; rw [if_pos hw]; exact stepO _ (.refl ..) hk
     ·rename_i hw; rw [if_neg hw]; exact step _ (hput _ _ (.refl ..)) hk
    ·split at hk
     ·rename_i hw; rw [if_pos hw]; exact step _ (hput _ _ (.refl ..)) hk
     ·rename_i hw; rw [if_neg hw]; exact stepO _ (.refl ..) hk
    ·split at hk
     ·rename_i hw; rw [if_pos hw]; exact br_mono (stepO _ (hgd _)) (step _ (hput _ _ (hgd _))) hk
     ·rename_i hw; rw [if_neg hw]; exact br_mono (step _ (hput _ _ (hgd _))) (stepO _ (hgd _)) hk
    ·exact step _ (hput _ _ (.refl ..)) hk
    ·exact hk.elim
   ·exact hk.elim

theorem mopA_mf {o:Oper} {M:MapA} {σ:St} {K K':MapA → St → Prop} (h:∀ M σ',FrD (Dst o.dst) σ σ' → K M σ' → K' M σ') (hk:mopA P o M σ K):mopA P o M σ K':=by
 have hp:∀ M v,K M (σ.put o.dst v) → K' M (σ.put o.dst v):=fun M v => h M _ (.put σ o.dst v)
 have hpop:mpopA P o M σ K → mpopA P o M σ K':=fun hk => by
  unfold mpopA at *
  split at hk
  ·rename_i hc
   rw [if_pos hc]
   split at hk
   ·exact hp _ _ hk
   ·exact hk.elim
  ·exact hk.elim
 have hget:∀ b,mgetA M o.dst b σ K → mgetA M o.dst b σ K':=fun b hk => by
  unfold mgetA at *
  split at hk
  ·exact hp _ _ hk
  ·exact hk.elim
 unfold mopA at hk ⊢
 split at hk
 ·split at hk
  ·rename_i hc
   rw [if_pos hc]
   exact loadA_mono (fun v hk => hp _ _ hk) hk
  ·exact hk.elim
 ·split at hk
  ·split at hk
   ·rename_i hc
    rw [if_pos hc]; exact hp _ _ hk
   ·exact hk.elim
  ·exact hk.elim
 ·split at hk
  ·split at hk
   ·rename_i hc
    rw [if_pos hc]; exact br_mono (hget _) (hget _) hk
   ·exact hk.elim
  ·exact hk.elim
 ·split at hk
  ·rename_i d hd hop
   rw [hd] at h
   split at hk
   ·rename_i hc
    rw [if_pos hc]
    split at hk
    ·rename_i hc2
     rw [if_pos hc2]; exact h _ _ (.put ..) hk
    ·exact hk.elim
   ·rename_i hc
    rw [if_neg hc]; exact hpop hk
  ·exact hpop hk
 ·exact hpop hk
theorem aopsM_mf (hI:InlMf S.inl) {dsts:List (Option Nat)}:∀ (ops:List Oper) {M:Option MapA} {σ:St} {K K':St → Prop},(∀ o ∈ ops,o.dst ∈ dsts) → (∀ σ',FrD (DstL dsts) σ σ' → K σ' → K' σ') → aopsM P S n ops M σ K → aopsM P S n ops M σ K':=by
 intro ops
 induction ops with
 | nil => intro M σ K K' _ h hk; exact h _ (.refl ..) hk
 | cons o r ih =>
  intro M σ K K' hd h hk
  have hr:∀ o ∈ r,o.dst ∈ dsts:=fun x hx => hd x (List.mem_cons_of_mem _ hx)
  have hdo:∀ t,Dst o.dst t → DstL dsts t:=fun t ht => by have:=hd o (by simp); rw [show o.dst = some t from ht] at this; exact this
  have step:∀ M σ1,FrD (DstL dsts) σ σ1 → aopsM P S n r M σ1 K → aopsM P S n r M σ1 K':=fun M σ1 h1 hk => ih hr (fun σ' h2 hk => h σ' (h1.trans h2) hk) hk
  unfold aopsM at hk ⊢
  split at hk
  ·exact hk.elim
  ·rename_i hg
   rw [if_neg hg]
   split at hk
   ·split at hk
    ·rename_i d hop hd2
     split at hk
     ·rename_i hc
      rw [if_pos hc]; exact step _ _ ((FrD.put σ (some d) _).weak fun t ht => hdo t (by rw [hd2]; exact ht)) hk
     ·exact hk.elim
    ·exact hk.elim
    ·exact aop_mf hI (fun σ' h2 hk => step none σ' (h2.weak hdo) hk) hk
   ·exact mopA_mf (fun M σ' h2 hk => step _ σ' (h2.weak hdo) hk) hk
theorem split_mf {g:Bool} {d:Option Nat} {σ:St} {K K':St → Prop} (h:∀ σ',FrD (Dst d) σ σ' → K σ' → K' σ') (hk:split g d σ K):split g d σ K':=by
 unfold split at *
 split at hk
 ·split at hk
  ·rename_i hb; (try simp only); exact br_mono (h _ (.put ..)) (h _ (.put ..)) hk
  ·(try simp only); exact h _ (.refl ..) hk
 ·exact h _ (.refl ..) hk
theorem gop_mf (hI:InlMf S.inl) {dsts:List (Option Nat)} {g:Bool} {o:Oper} {σ:St} {K K':St → Prop} (h:∀ σ',FrD (Dst o.dst) σ σ' → K σ' → K' σ') (hk:gop P S n dsts g o σ K):gop P S n dsts g o σ K':=by
 have hs:(aop P S n o σ fun σ => split g o.dst σ K) → (aop P S n o σ fun σ => split g o.dst σ K'):=aop_mf hI fun σ1 h1 hk => split_mf (fun σ2 h2 hk => h _ (h1.trans h2) hk) hk
 have hp:=h _ (.put σ o.dst (.tup []))
 unfold gop at *
 split at hk
 ·exact hs hk
 ·split at hk
  ·split at hk
   ·split at hk
    ·rename_i hw; rw [if_pos hw]; exact hs hk
    ·rename_i hw; rw [if_neg hw]; exact hp hk
   ·split at hk
    ·rename_i hw; rw [if_pos hw]; exact hp hk
    ·rename_i hw; rw [if_neg hw]; exact hs hk
   ·exact hp hk
   ·exact hk.elim
  ·exact hk.elim
theorem dops_mf (hI:InlMf S.inl) {ops:Array Oper}:∀ (l:List Nat) {past:List Fp} {σ:St} {K K':St → Prop},(∀ σ',FrD (DstL (dstsOf ops.toList)) σ σ' → K σ' → K' σ') → dops P S n ops l past σ K → dops P S n ops l past σ K':=by
 intro l
 induction l with
 | nil => intro past σ K K' h hk; exact h _ (.refl ..) hk
 | cons i r ih =>
  intro past σ K K' h hk
  unfold dops at hk ⊢
  cases ho:ops[i]? with
  | none => rw [ho] at hk; exact hk.elim
  | some o =>
   rw [ho] at hk
   simp only at hk ⊢
   have hdo:∀ t,Dst o.dst t → DstL (dstsOf ops.toList) t:=fun t ht => by
    refine List.mem_map.2 ⟨o,?_,ht⟩
    have:=List.mem_of_getElem? (by rw [← Array.getElem?_toList] at ho; exact ho)
    exact this
   split at hk
   ·exact hk.elim
   ·split at hk
    ·rename_i hc
     rw [if_pos hc]
     refine gop_mf hI (fun σ' h1 hk => ?_) hk
     simp only [forceL_eq] at hk ⊢
     split at hk
     ·rename_i hc2
      rw [if_pos hc2]
      exact ih (fun σ'' h2 hk => h _ ((h1.weak hdo).trans h2) hk) hk
     ·exact hk.elim
    ·exact hk.elim
theorem seqK_mf (hI:InlMf S.inl) {ops:Array Oper}:∀ (l:List Nat) {σ:St} {K K':St → Prop},(∀ σ',FrD (DstL (dstsOf ops.toList)) σ σ' → K σ' → K' σ') → seqK P S n ops l K σ → seqK P S n ops l K' σ:=by
 intro l
 induction l with
 | nil => intro σ K K' h hk; exact h _ (.refl ..) hk
 | cons x r ih =>
  intro σ K K' h hk
  unfold seqK at hk ⊢
  split at hk
  ·rename_i o ho
   exact gop_mf hI (fun σ2 h2 hk => ih (fun σ3 h3 hk => h σ3 ((h2.weak fun t ht => List.mem_map.2 ⟨o,by simpa using Array.mem_of_getElem? ho,ht⟩).trans h3) hk) hk) hk
  ·exact hk.elim
theorem drawA_mf (hI:InlMf S.inl) {ops:Array Oper} {ord:List Nat} {σ:St} {K K':St → Prop} (h:∀ σ',FrD (DstL (dstsOf ops.toList)) σ σ' → K σ' → K' σ') (hk:drawA P S n ops ord σ K):drawA P S n ops ord σ K':=by
 unfold drawA at hk ⊢
 simp only [forceL_eq] at hk ⊢
 split at hk
 ·rename_i hc; rw [if_pos hc]; exact dops_mf hI _ h hk
 ·rename_i hc
  rw [if_neg hc]
  split at hk
  ·rename_i hf
   rw [if_pos hf]
   exact dops_mf hI _ (fun σ' hf hk => seqK_mf hI _ (fun σ2 h2 hk => h σ2 (hf.trans h2) hk) hk) hk
  ·exact hk.elim
end
end Go.Proofs.YtblebiafhhhflaaGreat
namespace Go.Proofs.YtblebiafhhhflaaGreat
open Go.RowKit

theorem lookup_mem {α:Type}:∀ {l:List (Nat × α)} {a:Nat} {b:α},l.lookup a = some b → (a,b) ∈ l:=by
 intro l
 induction l with
 | nil => intro a b h; simp at h
 | cons x r ih =>
  intro a b h
  obtain ⟨k,v⟩:=x
  simp only [List.lookup_cons] at h
  split at h
  ·rename_i hk
   simp only [beq_iff_eq] at hk
   cases h; subst hk; simp
  ·exact List.mem_cons_of_mem _ (ih h)
theorem lookup_none {α:Type}:∀ {l:List (Nat × α)} {a:Nat},l.lookup a = none → ∀ q ∈ l,q.1 ≠ a:=by
 intro l
 induction l with
 | nil => intro a h q hq; simp at hq
 | cons x r ih =>
  intro a h q hq
  obtain ⟨k,v⟩:=x
  simp only [List.lookup_cons] at h
  split at h
  ·cases h
  ·rename_i hk
   simp only [beq_eq_false_iff_ne,ne_eq] at hk
   rcases List.mem_cons.1 hq with rfl | hq
   ·exact fun h => hk h.symm
   ·exact ih h q hq

theorem nodup_fst {α:Type}:∀ {l:List (Nat × α)} {a:Nat} {b c:α},(l.map (·.1)).Nodup → (a,b) ∈ l → (a,c) ∈ l → b = c:=by
 intro l
 induction l with
 | nil => intro a b c _ h; simp at h
 | cons x r ih =>
  intro a b c hn hb hc
  simp only [List.map_cons,List.nodup_cons,List.mem_map,not_exists,not_and] at hn
  rcases List.mem_cons.1 hb with hb | hb
  ·rcases List.mem_cons.1 hc with hc | hc
   ·rw [← hb] at hc; cases hc; rfl
   ·exact absurd (by rw [← hb]) (hn.1 _ hc)
  ·rcases List.mem_cons.1 hc with hc | hc
   ·exact absurd (by rw [← hc]) (hn.1 _ hb)
   ·exact ih hn.2 hb hc
theorem fitL_length:∀ (l m:List AV),fitL l m = true → l.length = m.length:=by
 intro l
 induction l with
 | nil => intro m h; cases m with
  | nil => rfl
  | cons _ _ => simp [fitL] at h
 | cons a r ih => intro m h; cases m with
  | nil => simp [fitL] at h
  | cons b s => simp only [fitL,Bool.and_eq_true] at h; simp [ih s h.2]

mutual
theorem ren_tree {h:Nat → Option Nat} (v:AV) (ht:v.tree = true):v.ren h = v:=by
 cases v with
 | ref b off => simp [AV.tree] at ht
 | aslc b off len esz ag => simp [AV.tree] at ht
 | map b => simp [AV.tree] at ht
 | fn f a b =>
  simp only [AV.tree,Bool.and_eq_true] at ht
  simp only [AV.ren]; rw [renL_tree a ht.1,renL_tree b ht.2]
 | iface t v => simp only [AV.ren]; rw [ren_tree v (by simpa [AV.tree] using ht)]
 | agg cs => simp only [AV.ren]; rw [renL_tree cs (by simpa [AV.tree] using ht)]
 | tup cs => simp only [AV.ren]; rw [renL_tree cs (by simpa [AV.tree] using ht)]
 | _ => rfl
theorem renL_tree {h:Nat → Option Nat} (l:List AV) (ht:AV.treeL l = true):AV.renL h l = l:=by
 cases l with
 | nil => rfl
 | cons x r =>
  simp only [AV.treeL,Bool.and_eq_true] at ht
  simp only [AV.renL]; rw [ren_tree x ht.1,renL_tree r ht.2]
end
mutual
theorem ren_fix {h:Nat → Option Nat} (v:AV) (ht:∀ b ∈ v.refs,h b = some b):v.ren h = v:=by
 cases v with
 | ref b off => simp only [AV.ren]; rw [ht b (by simp [AV.refs])]
 | aslc b off len esz ag => simp only [AV.ren]; rw [ht b (by simp [AV.refs])]
 | map b => simp only [AV.ren]; rw [ht b (by simp [AV.refs])]
 | fn f a b => simp only [AV.ren]; rw [renL_fix a fun b hb => ht b (by simp [AV.refs,hb]),renL_fix b fun b hb => ht b (by simp [AV.refs,hb])]
 | iface t v => simp only [AV.ren]; rw [ren_fix v fun b hb => ht b (by simpa [AV.refs] using hb)]
 | agg cs => simp only [AV.ren]; rw [renL_fix cs fun b hb => ht b (by simpa [AV.refs] using hb)]
 | tup cs => simp only [AV.ren]; rw [renL_fix cs fun b hb => ht b (by simpa [AV.refs] using hb)]
 | _ => rfl
theorem renL_fix {h:Nat → Option Nat} (l:List AV) (ht:∀ b ∈ AV.refsL l,h b = some b):AV.renL h l = l:=by
 cases l with
 | nil => rfl
 | cons x r => simp only [AV.renL]; rw [ren_fix x fun b hb => ht b (by simp [AV.refsL,hb]),renL_fix r fun b hb => ht b (by simp [AV.refsL,hb])]
end
theorem fixB {h:Nat → Option Nat} {b:Nat} (hb:self h b = true):h b = some b:=by
 unfold self at hb
 cases hh:h b with
 | none => simp [hh] at hb
 | some i => simp only [hh,beq_iff_eq] at hb; rw [hb]
theorem fixed_ren {h:Nat → Option Nat} {v:AV} (hv:v.fixed h = true):v.ren h = v :=
 ren_fix v fun b hb => fixB (List.all_eq_true.1 hv b hb)

mutual
theorem allV_mono (v:AV) {K K':AV → Prop} (h:∀ x,K x → K' x) (hk:allV v K):allV v K':=by
 cases v with
 | int k n => exact fun n => h _ (hk n)
 | bool b => exact fun n => h _ (hk n)
 | str s => exact fun n => h _ (hk n)
 | slc m es => exact fun n => h _ (hk n)
 | tup vs => exact fun n => h _ (hk n)
 | agg cs => exact allL_mono cs (fun _ hx => h _ hx) hk
 | iface t v => exact allV_mono v (fun _ hx => h _ hx) hk
 | undef => exact fun v ht => h _ (hk v ht)
 | _ => trivial
theorem allL_mono (l:List AV) {K K':List AV → Prop} (h:∀ x,K x → K' x) (hk:allL l K):allL l K':=by
 cases l with
 | nil => exact h _ hk
 | cons x r => exact allV_mono x (fun v hv => allL_mono r (fun l hl => h _ hl) hv) hk
end
mutual
theorem allV_fit (v x:AV) {K:AV → Prop} (hf:fitV v x = true) (hk:allV v K):K x:=by
 cases v with
 | int k n =>
  cases x <;> simp only [fitV,decide_eq_true_eq,Bool.false_eq_true] at hf
  subst hf; exact hk _
 | bool b => cases x <;> simp only [fitV,Bool.false_eq_true] at hf; exact hk _
 | str s => cases x <;> simp only [fitV,Bool.false_eq_true] at hf; exact hk _
 | slc m es =>
  cases x with
  | slc m' es' =>
   have:m' = 3:=by
    unfold fitV at hf
    split at hf <;> simp_all
   subst this; exact hk _
  | _ => simp [fitV] at hf
 | tup vs => cases x <;> simp only [fitV,Bool.false_eq_true] at hf; exact hk _
 | agg cs =>
  cases x <;> simp only [fitV,Bool.false_eq_true] at hf
  exact allL_fit cs _ hf hk
 | iface t v =>
  cases x <;> simp only [fitV,Bool.false_eq_true,Bool.and_eq_true,decide_eq_true_eq] at hf
  obtain ⟨rfl,hf⟩:=hf
  exact allV_fit (K:=fun y => K (.iface _ y)) v _ hf hk
 | undef => exact hk x (by simpa [fitV] using hf)
 | _ => simp [fitV] at hf
theorem allL_fit (l xs:List AV) {K:List AV → Prop} (hf:fitL l xs = true) (hk:allL l K):K xs:=by
 cases l with
 | nil =>
  cases xs with
  | nil => exact hk
  | cons _ _ => simp [fitL] at hf
 | cons x r =>
  cases xs with
  | nil => simp [fitL] at hf
  | cons y s =>
   simp only [fitL,Bool.and_eq_true] at hf
   exact allL_fit r s hf.2 (allV_fit x y hf.1 hk)
end
theorem allS_mono:∀ (m:Nat) {K K':List (List AV) → Prop},(∀ x,K x → K' x) → allS m K → allS m K':=by
 intro m
 induction m with
 | zero => intro K K' h hk; exact h _ hk
 | succ m ih => intro K K' h hk es; exact ih (fun l hl => h _ hl) (hk es)
theorem allS_fit:∀ (m:Nat) {K:List (List AV) → Prop} (ls:List (List AV)),ls.length = m → allS m K → K ls:=by
 intro m
 induction m with
 | zero => intro K ls hl hk; have:ls = []:=List.length_eq_zero_iff.1 hl; subst this; exact hk
 | succ m ih =>
  intro K ls hl hk
  cases ls with
  | nil => simp at hl
  | cons x r => exact ih r (by simpa using hl) (hk x)

theorem genVals_spec {σ:St}:∀ {l:List (Nat × AV)} {gs:List AV},genVals σ l = some gs → fitL (l.map (·.2)) gs = true ∧ ∀ q ∈ (l.map (·.1)).zip gs,q.2 = (σ.sl.getD q.1 .undef).norm ∧ (σ.sl.getD q.1 .undef).tree = true:=by
 intro l
 induction l with
 | nil => intro gs h; cases h; exact ⟨rfl,by simp⟩
 | cons x r ih =>
  obtain ⟨t,sk⟩:=x
  intro gs h
  simp only [genVals] at h
  split at h
  ·rename_i hc
   simp only [Bool.and_eq_true] at hc
   obtain ⟨l,hl,rfl⟩:=Option.map_eq_some_iff.1 h
   obtain ⟨h1,h2⟩:=ih hl
   refine ⟨by simp only [List.map_cons,fitL,hc.2,h1,Bool.and_self],fun q hq => ?_⟩
   simp only [List.map_cons,List.zip_cons_cons,List.mem_cons] at hq
   rcases hq with rfl | hq
   ·exact ⟨rfl,hc.1⟩
   ·exact h2 q hq
  ·cases h
theorem bgenVals_spec {σ0 σ:St}:∀ {l:List (Nat × AV)} {bs:List AV},bgenVals σ0 σ l = some bs → fitL (l.map (·.2)) bs = true ∧
  ∀ q ∈ l.zip bs,∃ x y,σ0.bx.getD q.1.1 none = some x ∧ σ.bx.getD q.1.1 none = some y ∧ x.arr = y.arr ∧ (x.arr = true ∨ AV.treeL y.cs = true) ∧ q.2 = .agg (AV.normL y.cs):=by
 intro l
 induction l with
 | nil => intro bs h; cases h; exact ⟨rfl,by simp⟩
 | cons x r ih =>
  obtain ⟨b,sk⟩:=x
  intro bs h
  simp only [bgenVals] at h
  split at h
  ·rename_i x y hx hy
   split at h
   ·rename_i hc
    simp only [Bool.and_eq_true,Bool.or_eq_true,beq_iff_eq] at hc
    obtain ⟨l,hl,rfl⟩:=Option.map_eq_some_iff.1 h
    obtain ⟨h1,h2⟩:=ih hl
    refine ⟨by simp only [List.map_cons,fitL,hc.2,h1,Bool.and_self],fun q hq => ?_⟩
    simp only [List.zip_cons_cons,List.mem_cons] at hq
    rcases hq with rfl | hq
    ·exact ⟨x,y,hx,hy,hc.1.1,hc.1.2,rfl⟩
    ·exact h2 q hq
   ·cases h
  ·cases h
def AppAt (P:Program) (σ:St) (q:Nat × TypeId) (es:List AV):Prop :=
 ((σ.sl.getD q.1 .undef = .slc 0 [] ∨ σ.sl.getD q.1 .undef = .slc 2 []) ∧ es = []) ∨
 ∃ b x,σ.sl.getD q.1 .undef = .aslc b 0 es.length (P.cellsOf q.2) (isAggT P q.2) ∧ σ.bx.getD b none = some x ∧ x.arr = true ∧ es.flatMap AV.cells = x.cs
theorem appVals_spec {P:Program} {σ:St}:∀ {l:List (Nat × TypeId)} {C:List (List AV) → Prop},appVals P σ l C → ∃ ls,C ls ∧ ls.length = l.length ∧ ∀ q ∈ l.zip ls,AppAt P σ q.1 q.2:=by
 intro l
 induction l with
 | nil => intro C h; exact ⟨[],h,rfl,by simp⟩
 | cons x r ih =>
  obtain ⟨t,e⟩:=x
  intro C h
  have fin:∀ es,AppAt P σ (t,e) es → appVals P σ r (fun l => C (es :: l)) → ∃ ls,C ls ∧ ls.length = r.length + 1 ∧ ∀ q ∈ ((t,e) :: r).zip ls,AppAt P σ q.1 q.2:=by
   intro es h1 h2
   obtain ⟨ls,h3,h4,h5⟩:=ih h2
   refine ⟨es :: ls,h3,by simp [h4],fun q hq => ?_⟩
   simp only [List.zip_cons_cons,List.mem_cons] at hq
   rcases hq with rfl | hq
   ·exact h1
   ·exact h5 q hq
  simp only [appVals] at h
  split at h
  ·rename_i hh; exact fin [] (.inl ⟨.inl hh,rfl⟩) h
  ·rename_i hh; exact fin [] (.inl ⟨.inr hh,rfl⟩) h
  ·rename_i b off len esz ag hh
   split at h
   ·rename_i x hx
    split at h
    ·rename_i hc
     simp only [Bool.and_eq_true,beq_iff_eq] at hc
     obtain ⟨⟨⟨ha,rfl⟩,rfl⟩,rfl⟩:=hc
     obtain ⟨es,⟨h1,h2⟩,h3⟩:=h
     subst h1
     exact fin es (.inr ⟨b,x,hh,hx,ha,h2⟩) h3
    ·exact h.elim
   ·exact h.elim
  ·exact h.elim

theorem keptBx_spec {entry:Bool} {h:Nat → Option Nat} {skip:Nat → Bool} {σ:St} {C:Prop}:∀ {l:List (Option Bx)} {b0:Nat},keptBx entry h skip σ b0 l C → C ∧ ∀ (i:Nat) (x:Bx),l[i]? = some (some x) → skip (b0 + i) = false →
  ∃ y,σ.bx.getD (b0 + i) none = some y ∧ y.arr = x.arr ∧ h (b0 + i) = some (b0 + i) ∧ (x.arr = true ∨ ∀ v ∈ x.cs,v.fixed h = true) ∧ (entry = false → y.cs = x.cs):=by
 intro l
 induction l with
 | nil => intro b0 hk; exact ⟨hk,fun i x hi => by simp at hi⟩
 | cons o r ih =>
  intro b0 hk
  have tail:keptBx entry h skip σ (b0 + 1) r C → (∀ x,o = some x → skip b0 = false →
    ∃ y,σ.bx.getD b0 none = some y ∧ y.arr = x.arr ∧ h b0 = some b0 ∧ (x.arr = true ∨ ∀ v ∈ x.cs,v.fixed h = true) ∧ (entry = false → y.cs = x.cs)) → C ∧ ∀ (i:Nat) (x:Bx),(o :: r)[i]? = some (some x) → skip (b0 + i) = false →
    ∃ y,σ.bx.getD (b0 + i) none = some y ∧ y.arr = x.arr ∧ h (b0 + i) = some (b0 + i) ∧ (x.arr = true ∨ ∀ v ∈ x.cs,v.fixed h = true) ∧ (entry = false → y.cs = x.cs):=by
   intro h1 h2
   obtain ⟨h3,h4⟩:=ih h1
   refine ⟨h3,fun i x hi hs => ?_⟩
   cases i with
   | zero => exact h2 x (by simpa using hi) hs
   | succ i =>
    have:b0 + (i + 1) = b0 + 1 + i:=by omega
    rw [this] at hs ⊢
    exact h4 i x (by simpa using hi) hs
  cases o with
  | none => exact tail hk (fun x hx => by cases hx)
  | some x =>
   simp only [keptBx] at hk
   split at hk
   ·rename_i hs; exact tail hk (fun y hy hs' => by rw [hs] at hs'; cases hs')
   ·split at hk
    ·rename_i y hy
     by_cases hc:(y.arr == x.arr && self h b0 && (x.arr || x.cs.all (AV.fixed h))) = true
     ·rw [if_pos hc] at hk
      simp only [Bool.and_eq_true,Bool.or_eq_true,beq_iff_eq] at hc
      have hfx:x.arr = true ∨ ∀ v ∈ x.cs,v.fixed h = true:=by
       rcases hc.2 with hc | hc
       ·exact .inl hc
       ·exact .inr (List.all_eq_true.1 hc)
      split at hk
      ·rename_i he
       exact tail hk (fun x' hx' _ => by cases hx'; exact ⟨y,hy,hc.1.1,fixB hc.1.2,hfx,fun h => by rw [he] at h; cases h⟩)
      ·exact tail hk.2 (fun x' hx' _ => by cases hx'; exact ⟨y,hy,hc.1.1,fixB hc.1.2,hfx,fun _ => hk.1⟩)
     ·rw [if_neg hc] at hk; exact hk.elim
    ·exact hk.elim

theorem zipWith_mem {α β γ:Type} {f:α → β → γ} {l:List α} {m:List β} {c:γ} (h:c ∈ List.zipWith f l m):∃ q ∈ l.zip m,c = f q.1 q.2:=by
 induction l generalizing m with
 | nil => simp at h
 | cons x r ih =>
  cases m with
  | nil => simp at h
  | cons y s =>
   simp only [List.zipWith_cons_cons,List.mem_cons] at h
   rcases h with rfl | h
   ·exact ⟨(x,y),by simp,rfl⟩
   ·obtain ⟨q,h1,h2⟩:=ih h
    exact ⟨q,by simp [h1],h2⟩

theorem mapIdx_getD {α:Type} {f:Nat → α → α} {l:List α} {d:α} {t:Nat}:(mapI l f).getD t d = if t < l.length then f t (l.getD t d) else d:=by
 simp only [List.getD,mapI_get]
 by_cases h:t < l.length
 ·simp [h]
 ·simp [h]

theorem mapC_len {cs:List AV} (h:cs.length ≠ 1):mapC cs = none:=by
 match cs with
 | [] => rfl
 | [x] => exact absurd rfl h
 | x :: y :: r => rfl
theorem mapC1_relax {h:Nat → Option Nat} {c v:AV} (hr:relax (c.ren h) v) (hm:mapC1 c = none):mapC1 v = none:=by
 rcases hr with rfl | rfl | rfl | ⟨_,b,esz,ag,rfl⟩
 ·rfl
 ·rw [mapC1_ren]; exact hm
 ·rw [mapC1_norm,mapC1_ren]; exact hm
 ·rfl
def WkBy (h:Nat → Option Nat) (n:Nat) (σ σ':St):Prop :=
 ((∀ b i,h b = some i → i < n → b = i) ∧ True ∧ (∀ b c i,h b = some i → h c = some i → b = c) ∧
  (∀ t,relax ((σ.sl.getD t .undef).ren h) (σ'.sl.getD t .undef)) ∧
  (∀ b' x',σ'.bx.getD b' none = some x' → (∃ b x,h b = some b' ∧ σ.bx.getD b none = some x ∧ x'.arr = x.arr ∧ x'.cs.length = x.cs.length ∧ mapC x'.cs = mapC x.cs ∧
   ∀ j,if x.arr then relaxN (x.cs.getD j .undef) (x'.cs.getD j .undef) else relax ((x.cs.getD j .undef).ren h) (x'.cs.getD j .undef)) ∨ (x'.cs = [] ∧ n ≤ b' ∧ ∀ b,h b ≠ some b'))) ∧
 σ'.sl.length = σ.sl.length
theorem WkBy.weaker {h:Nat → Option Nat} {n:Nat} {σ σ':St} (hw:WkBy h n σ σ'):Weaker n σ σ':=⟨⟨h,hw.1⟩,hw.2⟩
theorem setCell1_getD {bx:List (Option Bx)} {b off:Nat} {v:AV} {c:Nat}:(setCell1 bx b off v).getD c none = if c = b then (bx.getD b none).map (fun x => { x with cs:=x.cs.set off v }) else bx.getD c none:=by
 unfold setCell1
 cases hb:bx.getD b none with
 | none =>
  simp only [Option.map_none]
  split
  ·rename_i hc; rw [hc,hb]
  ·rfl
 | some x =>
  have hlt:b < bx.length:=by
   rcases Nat.lt_or_ge b bx.length with h | h
   ·exact h
   ·simp [List.getD,List.getElem?_eq_none h] at hb
  simp only [Option.map_some,List.getD]
  split
  ·rename_i hc; rw [hc]; simp [hlt]
  ·rename_i hc; rw [List.getElem?_set_ne (Ne.symm hc)]
theorem drop1_wk {h:Nat → Option Nat} {n:Nat} {q:Nat × Nat × TypeId} {σ τ:St} {x:Bx} (hx:σ.bx.getD q.1 none = some x) (ha:x.arr = false) (hm:mapC x.cs = none) (ho:q.2.1 < x.cs.length) (hq:h q.1 = some q.1) (hw:WkBy h n (lift1 q σ) τ):WkBy h n σ (drop1 q τ):=by
 obtain ⟨⟨w1,w2,w3,w4,w5⟩,w6⟩:=hw
 have hl:τ.sl.length = σ.sl.length + 1:=by rw [w6]; simp [lift1]
 have hdl:(drop1 q τ).sl.length = σ.sl.length:=by simp [drop1,hl]
 have hsl:∀ t,t < σ.sl.length → (drop1 q τ).sl.getD t .undef = τ.sl.getD t .undef:=by
  intro t ht
  simp only [drop1,List.getD,List.getElem?_take]
  rw [if_pos (by omega)]
 have hlift:∀ t,(lift1 q σ).sl.getD t .undef = if t < σ.sl.length then σ.sl.getD t .undef else if t = σ.sl.length then cellAt σ q.1 q.2.1 else .undef:=by
  intro t
  simp only [lift1,List.getD,List.getElem?_append]
  split
  ·rfl
  ·rename_i h1
   split
   ·rename_i h2; rw [h2]; simp
   ·rename_i h2
    rw [List.getElem?_eq_none (by simp; omega)]; rfl
 refine ⟨⟨w1,w2,w3,fun t => ?_,fun b' x' hx' => ?_⟩,hdl⟩
 ·rcases Nat.lt_or_ge t σ.sl.length with ht | ht
  ·have:=w4 t
   rw [hlift,if_pos ht] at this
   rw [hsl t ht]; exact this
  ·have e:(drop1 q τ).sl.getD t .undef = .undef:=getD_le (by rw [hdl]; exact ht)
   rw [e]; exact .inl rfl
 ·simp only [drop1] at hx'
  rw [setCell1_getD] at hx'
  have hlb:∀ b,(lift1 q σ).bx.getD b none = if b = q.1 then (σ.bx.getD q.1 none).map (fun x => { x with cs:=x.cs.set q.2.1 .undef }) else σ.bx.getD b none:=fun b => setCell1_getD
  split at hx'
  ·rename_i hb
   subst hb
   obtain ⟨y,hy,rfl⟩:=Option.map_eq_some_iff.1 hx'
   rcases w5 q.1 y hy with ⟨b,z,g1,g2,g3,g4,_,g5⟩ | ⟨_,_,g⟩
   ·have hbq:b = q.1:=w3 b q.1 q.1 g1 hq
    subst hbq
    rw [hlb,if_pos rfl,hx] at g2
    cases g2
    have hmv:mapC (y.cs.set q.2.1 (τ.sl.getD (τ.sl.length - 1) .undef)) = mapC x.cs:=by
     rw [hm]
     simp only [List.length_set] at g4
     by_cases hl1:x.cs.length = 1
     ·have h0:q.2.1 = 0:=by omega
      have hr:=w4 (τ.sl.length - 1)
      rw [hlift,if_neg (by omega),if_pos (by omega)] at hr
      have e2:cellAt σ q.1 q.2.1 = x.cs.getD q.2.1 .undef:=by unfold cellAt; rw [hx]
      rw [e2,h0] at hr
      match hxc:x.cs,hl1 with
      | [c],_ =>
       rw [hxc] at hr hm
       match hyc:y.cs,(show y.cs.length = 1 by rw [g4,hxc]; rfl) with
       | [d],_ =>
        rw [h0]
        show mapC1 _ = none
        exact mapC1_relax hr hm
     ·exact mapC_len (by rw [List.length_set,g4]; exact hl1)
    refine .inl ⟨q.1,x,hq,hx,g3,by simpa using g4,hmv,fun j => ?_⟩
    simp only [ha,Bool.false_eq_true,if_false] at g5 ⊢
    simp only [List.length_set] at g4
    by_cases hj:j = q.2.1
    ·subst hj
     have e1:(y.cs.set q.2.1 (τ.sl.getD (τ.sl.length - 1) .undef)).getD q.2.1 .undef = τ.sl.getD (τ.sl.length - 1) .undef:=by
      simp only [List.getD,List.getElem?_set_self (by omega:q.2.1 < y.cs.length),Option.getD_some]
     rw [e1]
     have:=w4 (τ.sl.length - 1)
     rw [hlift,if_neg (by omega),if_pos (by omega)] at this
     have e2:cellAt σ q.1 q.2.1 = x.cs.getD q.2.1 .undef:=by unfold cellAt; rw [hx]
     rw [e2] at this; exact this
    ·have e1:(y.cs.set q.2.1 (τ.sl.getD (τ.sl.length - 1) .undef)).getD j .undef = y.cs.getD j .undef:=by
      simp only [List.getD,List.getElem?_set_ne (Ne.symm hj)]
     rw [e1]
     have:=g5 j
     have e2:(x.cs.set q.2.1 .undef).getD j .undef = x.cs.getD j .undef:=by
      simp only [List.getD,List.getElem?_set_ne (Ne.symm hj)]
     rw [e2] at this; exact this
   ·exact absurd hq (g q.1)
  ·rename_i hb
   rcases w5 b' x' hx' with ⟨b,z,g1,g2,g3,g4,g5⟩ | g
   ·have hbq:b ≠ q.1:=by rintro rfl; rw [hq] at g1; exact hb (Option.some.inj g1).symm
    rw [hlb,if_neg hbq] at g2
    exact .inl ⟨b,z,g1,g2,g3,g4,g5⟩
   ·exact .inr g
theorem dropC_wk {h:Nat → Option Nat} {n:Nat}:∀ (cap:List (Nat × Nat × TypeId)) {σ τ:St},capOK h cap σ = true → WkBy h n (liftC cap σ) τ → WkBy h n σ (dropC cap τ):=by
 intro cap
 induction cap with
 | nil => intro σ τ _ hw; exact hw
 | cons q r ih =>
  intro σ τ hc hw
  simp only [capOK,Bool.and_eq_true] at hc
  obtain ⟨⟨h1,h2⟩,h3⟩:=hc
  split at h1
  ·rename_i x hx
   simp only [Bool.and_eq_true,Bool.not_eq_true',decide_eq_true_eq] at h1
   exact drop1_wk hx h1.1.1 (by simpa using h1.1.2) h1.2 (fixB h2) (ih h3 hw)
  ·cases h1
theorem liftC_sl:∀ (cap:List (Nat × Nat × TypeId)) (σ:St),(liftC cap σ).sl.length = σ.sl.length + cap.length ∧ ∀ t,t < σ.sl.length → (liftC cap σ).sl.getD t .undef = σ.sl.getD t .undef:=by
 intro cap
 induction cap with
 | nil => intro σ; exact ⟨rfl,fun _ _ => rfl⟩
 | cons q r ih =>
  intro σ
  obtain ⟨h1,h2⟩:=ih (lift1 q σ)
  have hl:(lift1 q σ).sl.length = σ.sl.length + 1:=by simp [lift1]
  refine ⟨by simp only [liftC,h1,hl,List.length_cons]; omega,fun t ht => ?_⟩
  simp only [liftC]
  rw [h2 t (by omega)]
  simp only [lift1,List.getD,List.getElem?_append,if_pos ht]
theorem dropC_sl:∀ (cap:List (Nat × Nat × TypeId)) (τ:St),cap.length ≤ τ.sl.length → (dropC cap τ).sl.length = τ.sl.length - cap.length ∧ ∀ t,t < τ.sl.length - cap.length → (dropC cap τ).sl.getD t .undef = τ.sl.getD t .undef:=by
 intro cap
 induction cap with
 | nil => intro τ _; exact ⟨rfl,fun _ _ => rfl⟩
 | cons q r ih =>
  intro τ hl
  simp only [List.length_cons] at hl
  obtain ⟨h1,h2⟩:=ih τ (by omega)
  refine ⟨by simp only [dropC,drop1,List.length_take,h1,List.length_cons]; omega,fun t ht => ?_⟩
  simp only [List.length_cons] at ht
  have:=h2 t (by omega)
  simp only [dropC,drop1,List.getD,List.getElem?_take]
  rw [if_pos (by omega)]
  exact this

section
variable {P:Program} {n:Nat} {keep D:List Nat} {p:Pat} {σ0 σ:St}

theorem toHead_spec {entry:Bool} {C:List AV → Prop} (hlen:σ.sl.length = σ0.sl.length) (hkept:∀ t,t ∈ keep → t ∉ D → σ.sl.getD t .undef = σ0.sl.getD t .undef) (hen:entry = true → σ0 = σ)
  (hk:toHead P n keep D p entry σ0 σ C):∃ gs ls bs,C (headV gs ls bs) ∧ fitL (p.gen.map (·.2)) gs = true ∧ ls.length = p.app.length ∧ fitL (p.bgen.map (·.2)) bs = true ∧ WkBy (p.hOf n σ) n σ (headSt P n keep D p σ0 gs ls bs):=by
 unfold toHead at hk
 split at hk
 case isFalse => exact hk.elim
 rename_i hok
 obtain ⟨hk,hkb⟩:=keptBx_spec hk
 split at hk
 case h_2 => exact hk.elim
 rename_i gs bs hgs hbs
 obtain ⟨ls,hC,hll,hap⟩:=appVals_spec hk
 obtain ⟨hfg,hg⟩:=genVals_spec hgs
 obtain ⟨hfb,hb⟩:=bgenVals_spec hbs
 unfold headOK at hok
 simp only [Bool.and_eq_true,decide_eq_true_eq,List.all_eq_true] at hok
 obtain ⟨⟨⟨hnd,hsd⟩,hbg⟩,hfx⟩:=hok
 refine ⟨gs,ls,bs,hC,hfg,hll,hfb,⟨⟨?_,trivial,?_,?_,?_⟩,?_⟩⟩
 ·intro b i hb hin
  unfold Pat.hOf hApp at hb
  split at hb
  ·rename_i j hj
   cases hb
   have hm:=lookup_mem hj
   exfalso
   obtain ⟨q,_,hq⟩:=List.mem_filterMap.1 hm
   split at hq
   ·cases hq; omega
   ·cases hq
  ·split at hb
   ·cases hb
   ·cases hb; rfl
 ·intro b c i hb hc
  have key:∀ b i,p.hOf n σ b = some i → ((b,i) ∈ appSrc n p σ ∧ ∃ q ∈ p.app,i = n + q.1 ∧ ∃ off len esz ag,σ.sl.getD q.1 .undef = .aslc b off len esz ag) ∨ (b = i ∧ ∀ q ∈ p.app,i ≠ n + q.1):=by
   intro b i hb
   unfold Pat.hOf hApp at hb
   split at hb
   ·rename_i j hj
    cases hb
    have hm:=lookup_mem hj
    refine .inl ⟨hm,?_⟩
    obtain ⟨q,hq1,hq⟩:=List.mem_filterMap.1 hm
    refine ⟨q,hq1,?_⟩
    split at hq
    ·rename_i hh; cases hq; exact ⟨rfl,_,_,_,_,hh⟩
    ·cases hq
   ·split at hb
    ·cases hb
    ·rename_i hn
     cases hb
     refine .inr ⟨rfl,fun q hq h => hn ?_⟩
     simp only [List.contains_iff_mem,List.mem_map]
     exact ⟨q,hq,h.symm⟩
  rcases key b i hb with ⟨_,q,hq,rfl,_,_,_,_,h1⟩ | ⟨rfl,h1⟩
  ·rcases key c _ hc with ⟨_,q',hq',h2,_,_,_,_,h3⟩ | ⟨_,h3⟩
   ·have:q.1 = q'.1:=by omega
    rw [this,h3] at h1
    cases h1; rfl
   ·exact absurd rfl (h3 q hq)
  ·rcases key c _ hc with ⟨_,q',hq',h2,_,_,_,_,h3⟩ | ⟨h2,h3⟩
   ·exact absurd h2 (h1 q' hq')
   ·exact h2.symm
 ·intro t
  simp only [headSt]
  rw [mapIdx_getD]
  split
  case isFalse => exact .inl rfl
  split
  case isFalse => exact .inl rfl
  rename_i hkt
  simp only [List.contains_iff_mem] at hkt
  split
  ·rename_i v hv
   rcases List.mem_append.1 (lookup_mem hv) with hv | hv
   ·obtain ⟨h1,h2⟩:=hg _ hv
    simp only at h1 h2
    rw [h1,ren_tree _ h2]
    exact .inr (.inr (.inl rfl))
   ·obtain ⟨q,hq,he⟩:=zipWith_mem hv
    simp only [Prod.mk.injEq] at he
    obtain ⟨rfl,rfl⟩:=he
    rcases hap q hq with ⟨h1,h2⟩ | ⟨b,x,h1,h2,h3,h4⟩
    ·rw [h2]
     refine .inr (.inr (.inr ⟨?_,_,_,_,rfl⟩))
     rcases h1 with h1 | h1 <;> rw [h1]
     ·exact .inl rfl
     ·exact .inr rfl
    ·rw [h1]
     refine .inr (.inl ?_)
     have hin:(b,n + q.1.1) ∈ appSrc n p σ:=List.mem_filterMap.2 ⟨q.1,(List.of_mem_zip hq).1,by rw [h1]⟩
     have:p.hOf n σ b = some (n + q.1.1):=by
      unfold Pat.hOf hApp
      cases hl:(appSrc n p σ).lookup b with
      | none => exact absurd rfl (lookup_none hl _ hin)
      | some j =>
       have hm:=lookup_mem hl
       rw [nodup_fst hsd hm hin]
     simp only [AV.ren,this]
  ·split
   ·exact .inl rfl
   ·rename_i hD
    simp only [List.contains_iff_mem] at hD
    have h1:=hkept t hkt hD
    have h2:=hfx t hkt
    simp only [Bool.or_eq_true,List.contains_iff_mem,hD,false_or] at h2
    rw [← h1] at h2
    rw [fixed_ren h2,h1]
    exact .inr (.inl rfl)
 ·intro b' x' hx'
  simp only [headSt] at hx'
  rw [mapIdx_getD] at hx'
  split at hx'
  case isFalse => cases hx'
  rename_i hblt
  split at hx'
  ·rename_i y hy
   cases hx'
   rcases List.mem_append.1 (lookup_mem hy) with hv | hv
   ·obtain ⟨q,hq,he⟩:=zipWith_mem hv
    simp only [Prod.mk.injEq] at he
    obtain ⟨rfl,rfl⟩:=he
    rcases hap q hq with ⟨h1,h2⟩ | ⟨b,x,h1,h2,h3,h4⟩
    ·refine .inr ⟨by simp [h2],by omega,fun b hb => ?_⟩
     unfold Pat.hOf hApp at hb
     split at hb
     ·rename_i j hj
      cases hb
      obtain ⟨q',hq',he⟩:=List.mem_filterMap.1 (lookup_mem hj)
      split at he
      ·rename_i hh
       simp only [Option.some.injEq,Prod.mk.injEq] at he
       have:q'.1 = q.1.1:=by omega
       rw [this] at hh
       rcases h1 with h1 | h1 <;> (rw [h1] at hh; cases hh)
      ·cases he
     ·split at hb
      ·cases hb
      ·rename_i hn
       cases hb
       exact hn (by simp only [List.contains_iff_mem,List.mem_map]; exact ⟨q.1,(List.of_mem_zip hq).1,rfl⟩)
    ·have hin:(b,n + q.1.1) ∈ appSrc n p σ:=List.mem_filterMap.2 ⟨q.1,(List.of_mem_zip hq).1,by rw [h1]⟩
     have hhb:p.hOf n σ b = some (n + q.1.1):=by
      unfold Pat.hOf hApp
      cases hl:(appSrc n p σ).lookup b with
      | none => exact absurd rfl (lookup_none hl _ hin)
      | some j =>
       have hm:=lookup_mem hl
       rw [nodup_fst hsd hm hin]
     refine .inl ⟨b,x,hhb,h2,h3.symm,by rw [h4],by rw [h4],fun j => ?_⟩
     rw [if_pos h3,h4]
     exact .inr (.inl rfl)
   ·obtain ⟨q,hq,he⟩:=zipWith_mem hv
    simp only [Prod.mk.injEq] at he
    obtain ⟨rfl,rfl⟩:=he
    obtain ⟨x,y,h1,h2,h3,h4,h5⟩:=hb q hq
    rw [h1,h5]
    have hhb:=fixB (hbg q.1 (List.of_mem_zip hq).1)
    refine .inl ⟨q.1.1,y,hhb,h2,h3,by simp [AV.cells,normL_length],by simp only [AV.cells]; exact mapC_norm _,fun j => ?_⟩
    simp only [AV.cells,normL_getD]
    split
    ·exact .inr (.inr rfl)
    ·rename_i ha
     have:AV.treeL y.cs = true:=by
      rcases h4 with h4 | h4
      ·rw [h3] at h4; exact absurd h4 ha
      ·exact h4
     rw [ren_tree _ (treeL_getD this j)]
     exact .inr (.inr (.inl rfl))
  ·rename_i hnone
   split at hx'
   ·cases hx'
   ·rename_i hns
    have hskip:((p.bgen.map (·.1)).contains b' || (p.app.map fun q => n + q.1).contains b' || (appSrc n p σ0).any (fun q => q.1 == b')) = false:=by
     rw [Bool.or_eq_false_iff,Bool.or_eq_false_iff]
     have hno:=lookup_none hnone
     refine ⟨⟨?_,?_⟩,by rw [← Bool.not_eq_true]; exact hns⟩
     ·rw [Bool.eq_false_iff]
      intro hc
      simp only [List.contains_iff_mem,List.mem_map] at hc
      obtain ⟨q,hq,rfl⟩:=hc
      have hbl:p.bgen.length = bs.length:=by simpa using fitL_length _ _ hfb
      obtain ⟨i,hi,hqi⟩:=List.getElem_of_mem hq
      unfold headBx at hno
      have:=hno _ (List.mem_append_right _ (List.getElem_mem (n:=i) (by simp only [List.length_zipWith]; omega)))
      simp only [List.getElem_zipWith,hqi,ne_eq,not_true_eq_false] at this
     ·rw [Bool.eq_false_iff]
      intro hc
      simp only [List.contains_iff_mem,List.mem_map] at hc
      obtain ⟨q,hq,rfl⟩:=hc
      obtain ⟨i,hi,hqi⟩:=List.getElem_of_mem hq
      refine hno (n + q.1,⟨q.2,true,(ls[i]'(by omega)).flatMap AV.cells⟩) (List.mem_append_left _ ?_) rfl
      rw [List.mem_iff_getElem]
      refine ⟨i,by simp; omega,?_⟩
      simp only [List.getElem_zipWith,hqi]
    have hl:σ0.bx[b']? = some (some x'):=by
     simp only [List.getD] at hx'
     rw [List.getElem?_eq_getElem hblt] at hx' ⊢
     simpa using hx'
    obtain ⟨y,h1,h2,h3,h4,h5⟩:=hkb b' x' hl (by rw [Nat.zero_add]; exact hskip)
    rw [Nat.zero_add] at h1 h3
    have h5:y.cs = x'.cs:=by
     cases entry with
     | false => exact h5 rfl
     | true =>
      rw [hen rfl,h1] at hx'
      cases hx'; rfl
    refine .inl ⟨b',y,h3,h1,h2.symm,by rw [h5],by rw [h5],fun j => ?_⟩
    rw [h5]
    split
    ·exact .inr (.inl rfl)
    ·rename_i ha
     rcases h4 with h4 | h4
     ·rw [h2] at ha; exact absurd h4 ha
     ·rcases Nat.lt_or_ge j x'.cs.length with hj | hj
      ·have:=h4 (x'.cs.getD j .undef) (by simp only [List.getD,List.getElem?_eq_getElem hj,Option.getD_some]; exact List.getElem_mem hj)
       rw [fixed_ren this]
       exact .inr (.inl rfl)
      ·rw [getD_le hj]; exact .inl rfl
 ·simp only [headSt,mapI_len]; exact hlen.symm
end
end Go.Proofs.YtblebiafhhhflaaGreat
namespace Go.Proofs.YtblebiafhhhflaaGreat
open Go.RowKit

def CD (ctl:Ctl) (c:Code) (t:Nat):Prop:=t ∈ ctl.dsts c ∨ t ∉ ctl.keep
theorem dsts_seq {ctl:Ctl} {a b:Code} {t:Nat}:(t ∈ ctl.dsts a → t ∈ dstsC a ++ dstsC b ++ (ctl.fz.filter fun q => decide (q.2 < 1000000000)).map (fun q => q.2 % 1000000)) ∧ (t ∈ ctl.dsts b → t ∈ dstsC a ++ dstsC b ++ (ctl.fz.filter fun q => decide (q.2 < 1000000000)).map (fun q => q.2 % 1000000)):=by
 simp only [Ctl.dsts,List.mem_append]
 exact ⟨fun h => h.elim (fun h => .inl (.inl h)) .inr,fun h => h.elim (fun h => .inl (.inr h)) .inr⟩
theorem clean_fr (keep:List Nat) (σ:St):FrD (fun t => t ∉ keep) σ (clean keep σ):=by
 refine ⟨by simp [clean,mapI_len],fun t ht => ?_⟩
 simp only [clean]
 rw [mapIdx_getD]
 split
 ·rw [if_pos (by simpa using ht)]
 ·rename_i hl; rw [getD_le (by omega)]

section
variable {P:Program} {S:Specs} {n:Nat}
theorem headSt_fr {keep D:List Nat} {p:Pat} {σ:St} {gs:List AV} {ls:List (List AV)} {bs:List AV} (hp:patIn D p = true) :
  FrD (fun t => t ∈ D ∨ t ∉ keep) σ (headSt P n keep D p σ gs ls bs):=by
 refine ⟨by simp [headSt,mapI_len],fun t ht => ?_⟩
 simp only [not_or,Classical.not_not] at ht
 simp only [headSt]
 rw [mapIdx_getD]
 split
 case isFalse => rename_i hl; rw [getD_le (by omega)]
 rw [if_pos (by simpa using ht.2)]
 split
 ·rename_i v hv
  exfalso
  unfold patIn at hp
  rw [List.all_eq_true] at hp
  have:t ∈ p.gen.map (·.1) ++ p.app.map (·.1):=by
   rcases List.mem_append.1 (lookup_mem hv) with hv | hv
   ·exact List.mem_append_left _ (List.of_mem_zip hv).1
   ·obtain ⟨q,hq,he⟩:=zipWith_mem hv
    simp only [Prod.mk.injEq] at he
    exact List.mem_append_right _ (List.mem_map.2 ⟨q.1,(List.of_mem_zip hq).1,he.1.symm⟩)
  have:=hp t this
  simp only [List.contains_iff_mem] at this
  exact ht.1 this
 ·rw [if_neg (by simpa using ht.1)]
theorem headK_mono {keep D:List Nat} {p:Pat} {σ:St} {C C':List AV → St → Prop} (h:∀ gs ls bs,C (headV gs ls bs) (headSt P n keep D p σ gs ls bs) → C' (headV gs ls bs) (headSt P n keep D p σ gs ls bs)) (hk:headK P n keep D p σ C):headK P n keep D p σ C' :=
 allL_mono _ (fun _ hk => allS_mono _ (fun _ hk => allL_mono _ (fun _ hk => h _ _ _ hk) hk) hk) hk
theorem headK_fit {keep D:List Nat} {p:Pat} {σ:St} {C:List AV → St → Prop} {gs:List AV} {ls:List (List AV)} {bs:List AV} (h1:fitL (p.gen.map (·.2)) gs = true) (h2:ls.length = p.app.length) (h3:fitL (p.bgen.map (·.2)) bs = true)
  (hk:headK P n keep D p σ C):C (headV gs ls bs) (headSt P n keep D p σ gs ls bs):=by
 unfold headK at hk
 have h4:=allL_fit _ _ h1 hk
 have h5:=allS_fit _ _ h2 h4
 exact allL_fit _ _ h3 h5

theorem nameK_mono {nm:Bool} {esz:Nat} {ag:Bool} {len:Nat} {cs:List AV} {K K':List AV → Prop} (h:∀ es,K es → K' es) (hk:nameK nm esz ag len cs K):nameK nm esz ag len cs K':=by
 unfold nameK at hk ⊢
 split at hk
 ·rename_i hn
  rw [if_pos hn]
  obtain ⟨es,h1,h2⟩:=hk
  exact ⟨es,h1,h es h2⟩
 ·rename_i hn
  rw [if_neg hn]; exact h _ hk
theorem freeze1_mf {nm:Bool} {t:Nat} {σ:St} {K K':St → Prop} (h:∀ σ',FrD (fun i => i = t) σ σ' → K σ' → K' σ') (hk:freeze1 nm n t σ K):freeze1 nm n t σ K':=by
 unfold freeze1 at hk ⊢
 split at hk
 ·rename_i hs
  (try simp only [hs])
  split at hk
  ·rename_i hb
   (try simp only [hb])
   split at hk
   ·rename_i hn
    rw [if_pos hn]
    refine withOK_mono (fun hk => nameK_mono (fun es hk => h _ ⟨by simp,fun i hi => ?_⟩ hk) hk) hk
    simp only [List.getD,List.getElem?_set_ne (Ne.symm hi)]
   ·exact hk.elim
  ·exact hk.elim
 ·exact h _ (.refl ..) hk
theorem split1_mf {k t:Nat} {σ:St} {K K':St → Prop} (h:∀ σ',FrD (fun i => i = t) σ σ' → K σ' → K' σ') (hk:split1 k t σ K):split1 k t σ K':=by
 unfold split1 at hk ⊢
 generalize σ.sl.getD t .undef = v at hk ⊢
 cases v with
 | int kd j => exact ⟨hk.1,selN_ang hk.2 fun m hm => h _ ⟨by simp,fun i hi => by simp only [List.getD,List.getElem?_set_ne (Ne.symm hi)]⟩ hm⟩
 | _ => exact h _ (.refl ..) hk
theorem freezeC_mf {nm:Bool} {off c:Nat} {σ:St} {K K':St → Prop} (h:∀ σ',FrD (fun _ => False) σ σ' → K σ' → K' σ') (hk:freezeC nm n off c σ K):freezeC nm n off c σ K':=by
 have h0:=h _ (.refl ..)
 unfold freezeC at hk ⊢
 generalize σ.bx.getD c none = y at hk ⊢
 cases y with
 | none => exact h0 hk
 | some x =>
  dsimp only at hk ⊢
  split at hk
  ·rename_i ha
   rw [if_pos ha]; exact h0 hk
  ·rename_i ha
   rw [if_neg ha]
   generalize x.cs.getD off .undef = v at hk ⊢
   cases v with
   | aslc b o len esz ag =>
    dsimp only at hk ⊢
    generalize σ.boxN b = z at hk ⊢
    cases z with
    | none => exact hk.elim
    | some cs =>
     dsimp only at hk ⊢
     split at hk
     ·rename_i hc
      rw [if_pos hc]
      exact withOK_mono (fun hk => nameK_mono (fun es hk => h ⟨σ.sl,_⟩ ⟨rfl,fun _ _ => rfl⟩ hk) hk) hk
     ·exact hk.elim
   | _ => exact h0 hk
theorem freezeK_mf:∀ {ts:List Nat} {σ:St} {K K':St → Prop},(∀ σ',FrD (fun i => ∃ t ∈ ts,t < 1000000000 ∧ i = t % 1000000) σ σ' → K σ' → K' σ') → freezeK n ts σ K → freezeK n ts σ K':=by
 intro ts
 induction ts with
 | nil => intro σ K K' h hk; exact h _ (.refl ..) hk
 | cons t r ih =>
  intro σ K K' h hk
  have rest:∀ τ,FrD (fun i => t < 1000000000 ∧ i = t % 1000000) σ τ → freezeK n r τ K → freezeK n r τ K':=fun τ hf hk =>
   ih (fun υ hf' hk => h _ ((hf.weak fun i hi => ⟨t,List.mem_cons_self ..,hi⟩).trans (hf'.weak fun i ⟨q,hq,he⟩ => ⟨q,List.mem_cons_of_mem _ hq,he⟩)) hk) hk
  simp only [freezeK] at hk ⊢
  split at hk
  ·rename_i hlt
   rw [if_pos hlt]
   exact freeze1_mf (fun τ hf hk => rest τ (hf.weak fun i hi => ⟨by omega,by rw [hi,Nat.mod_eq_of_lt hlt]⟩) hk) hk
  ·rename_i hlt
   rw [if_neg hlt]
   split at hk
   ·rename_i hlt2
    rw [if_pos hlt2]
    split at hk
    ·rename_i h9
     rw [if_pos h9]
     exact freeze1_mf (fun τ hf hk => rest τ (hf.weak fun i hi => ⟨hlt2,hi⟩) hk) hk
    ·rename_i h9
     rw [if_neg h9]
     exact split1_mf (fun τ hf hk => rest τ (hf.weak fun i hi => ⟨hlt2,hi⟩) hk) hk
   ·rename_i hlt2
    rw [if_neg hlt2]
    split at hk
    ·rename_i h9
     rw [if_pos h9]
     exact freezeC_mf (fun τ hf hk => rest τ (hf.weak fun i hi => hi.elim) hk) hk
    ·rename_i h9
     rw [if_neg h9]
     exact freezeC_mf (fun τ hf hk => rest τ (hf.weak fun i hi => hi.elim) hk) hk
theorem capSl_mem {L:Nat} {cap:List (Nat × Nat × TypeId)} {t:Nat} (h:t ∈ capSl L cap):L ≤ t:=by
 unfold capSl at h
 obtain ⟨i,_,rfl⟩:=List.mem_map.1 h
 omega
theorem patIn_up {D:List Nat} {p:Pat} {L:Nat} (h:patIn D p = true):patIn (D ++ capSl L p.cap) (p.up L) = true:=by
 unfold patIn at h ⊢
 simp only [List.all_eq_true,List.contains_iff_mem,List.mem_append,Pat.up] at h ⊢
 intro t ht
 rcases ht with ht | ht
 ·exact .inl (h t (.inl ht))
 ·rw [List.map_append,List.mem_append] at ht
  rcases ht with ht | ht
  ·exact .inl (h t (.inr ht))
  ·obtain ⟨q,hq,rfl⟩:=List.mem_map.1 ht
   obtain ⟨r,hr,rfl⟩:=zipWith_mem hq
   exact .inr (List.of_mem_zip hr).1
theorem up_app {p:Pat} {L:Nat}:(p.up L).app.length = p.app.length + p.cap.length:=by
 simp [Pat.up,capSl]
theorem headC_fr {keep D:List Nat} {p:Pat} {σ:St} {gs:List AV} {ls:List (List AV)} {bs:List AV} (hp:patIn D p = true) :
  FrD (fun t => t ∈ D ∨ t ∉ keep) σ (dropC p.cap (headSt P n (keep ++ capSl σ.sl.length p.cap) (D ++ capSl σ.sl.length p.cap) (p.up σ.sl.length) (liftC p.cap σ) gs ls bs)):=by
 obtain ⟨l1,l2⟩:=liftC_sl p.cap σ
 have hf:=headSt_fr (P:=P) (n:=n) (keep:=keep ++ capSl σ.sl.length p.cap) (σ:=liftC p.cap σ) (gs:=gs) (ls:=ls) (bs:=bs) (patIn_up (L:=σ.sl.length) hp)
 obtain ⟨d1,d2⟩:=dropC_sl p.cap (headSt P n (keep ++ capSl σ.sl.length p.cap) (D ++ capSl σ.sl.length p.cap) (p.up σ.sl.length) (liftC p.cap σ) gs ls bs) (by rw [hf.1,l1]; omega)
 refine ⟨by rw [d1,hf.1,l1]; omega,fun t ht => ?_⟩
 simp only [not_or,Classical.not_not] at ht
 rcases Nat.lt_or_ge t σ.sl.length with hl | hl
 ·rw [d2 t (by rw [hf.1,l1]; omega),hf.2 t ?_,l2 t hl]
  rintro (h | h)
  ·rcases List.mem_append.1 h with h | h
   ·exact ht.1 h
   ·have:=capSl_mem h; omega
  ·exact h (List.mem_append_left _ ht.2)
 ·rw [getD_le (by rw [d1,hf.1,l1]; omega),getD_le hl]
theorem headKC_mono {keep D:List Nat} {p:Pat} {σ:St} {C C':List AV → St → Prop}
  (h:∀ gs ls bs,C (headV gs ls bs) (dropC p.cap (headSt P n (keep ++ capSl σ.sl.length p.cap) (D ++ capSl σ.sl.length p.cap) (p.up σ.sl.length) (liftC p.cap σ) gs ls bs)) →
   C' (headV gs ls bs) (dropC p.cap (headSt P n (keep ++ capSl σ.sl.length p.cap) (D ++ capSl σ.sl.length p.cap) (p.up σ.sl.length) (liftC p.cap σ) gs ls bs))) (hk:headKC P n keep D p σ C):headKC P n keep D p σ C':=by
 unfold headKC at *
 exact headK_mono h hk
theorem toHeadC_spec {keep D:List Nat} {p:Pat} {σ0 σ:St} {entry:Bool} {C:List AV → Prop} (hlen:σ.sl.length = σ0.sl.length) (hkept:∀ t,t ∈ keep → t ∉ D → σ.sl.getD t .undef = σ0.sl.getD t .undef) (hen:entry = true → σ0 = σ)
  (hk:toHeadC P n keep D p entry σ0 σ C):∃ gs ls bs,C (headV gs ls bs) ∧ fitL (p.gen.map (·.2)) gs = true ∧ ls.length = p.app.length + p.cap.length ∧ fitL (p.bgen.map (·.2)) bs = true ∧
   Weaker n σ (dropC p.cap (headSt P n (keep ++ capSl σ0.sl.length p.cap) (D ++ capSl σ0.sl.length p.cap) (p.up σ0.sl.length) (liftC p.cap σ0) gs ls bs)):=by
 unfold toHeadC at hk
 dsimp only at hk
 split at hk
 case isFalse => exact hk.elim
 rename_i hc
 obtain ⟨a1,a2⟩:=liftC_sl p.cap σ
 obtain ⟨b1,b2⟩:=liftC_sl p.cap σ0
 obtain ⟨gs,ls,bs,h1,h2,h3,h4,h5⟩:=toHead_spec (by rw [a1,b1,hlen]) (fun t ht hd => by
  simp only [List.mem_append,not_or] at ht hd
  rcases ht with ht | ht
  ·rcases Nat.lt_or_ge t σ0.sl.length with hl | hl
   ·rw [a2 t (by omega),b2 t hl]; exact hkept t ht hd.1
   ·by_cases hl2:t < σ0.sl.length + p.cap.length
    ·exact absurd (List.mem_map.2 ⟨t - σ0.sl.length,List.mem_range.2 (by omega),by omega⟩) hd.2
    ·rw [getD_le (by rw [a1]; omega),getD_le (by rw [b1]; omega)]
  ·exact absurd ht hd.2) (fun he => by rw [hen he]) hk
 refine ⟨gs,ls,bs,h1,h2,?_,h4,(dropC_wk p.cap hc h5).weaker⟩
 rw [h3,up_app]
theorem headKC_fit {keep D:List Nat} {p:Pat} {σ:St} {C:List AV → St → Prop} {gs:List AV} {ls:List (List AV)} {bs:List AV} (h1:fitL (p.gen.map (·.2)) gs = true) (h2:ls.length = p.app.length + p.cap.length) (h3:fitL (p.bgen.map (·.2)) bs = true)
  (hk:headKC P n keep D p σ C):C (headV gs ls bs) (dropC p.cap (headSt P n (keep ++ capSl σ.sl.length p.cap) (D ++ capSl σ.sl.length p.cap) (p.up σ.sl.length) (liftC p.cap σ) gs ls bs)) :=
 by
 unfold headKC at hk
 exact headK_fit (p:=p.up σ.sl.length) h1 (by rw [h2,up_app]) h3 hk
theorem foldl_set_getD {l:List AV}:∀ (ts:List Nat) (t:Nat),t ∉ ts → (ts.foldl (fun l t => l.set t .undef) l).getD t .undef = l.getD t .undef:=by
 intro ts
 induction ts generalizing l with
 | nil => intro t _; rfl
 | cons x r ih =>
  intro t ht
  simp only [List.mem_cons,not_or] at ht
  simp only [List.foldl_cons]
  rw [ih t ht.2]
  simp only [List.getD,List.getElem?_set_ne (Ne.symm ht.1)]
theorem foldl_set_len {l:List AV}:∀ (ts:List Nat),(ts.foldl (fun l t => l.set t .undef) l).length = l.length:=by
 intro ts
 induction ts generalizing l with
 | nil => rfl
 | cons x r ih => simp only [List.foldl_cons,ih,List.length_set]
theorem awp_mf (hI:InlMf S.inl) {ctl:Ctl}:∀ (c:Code) {n:Nat} {σ:St} {K K':Ex → St → Prop},(∀ e σ',FrD (CD ctl c) σ σ' → K e σ' → K' e σ') → awp P S n ctl c σ K → awp P S n ctl c σ K':=by
 intro c
 induction c with
 | skip => intro n σ K K' h hk; exact h _ _ (.refl ..) hk
 | region id ops draw =>
  intro n σ K K' h hk
  have hc:∀ τ σ',FrD (fun i => ∃ t ∈ ctl.fzAt id,t < 1000000000 ∧ i = t % 1000000) σ τ → FrD (DstL (dstsOf ops.toList)) τ σ' → FrD (CD ctl (.region id ops draw)) σ (clean ctl.keep σ'):=fun τ σ' hz hf =>
   ((hz.weak fun t ⟨u,hu,hlt,ht⟩ => .inl (List.mem_append_right _ (by obtain ⟨q,hq,he⟩:=List.mem_map.1 hu; exact List.mem_map.2 ⟨q,List.mem_filter.2 ⟨(List.mem_filter.1 hq).1,by rw [he]; exact decide_eq_true hlt⟩,by rw [he,ht]⟩))).trans
   (hf.weak fun t ht => .inl (List.mem_append_left _ (List.mem_filterMap.2 (by obtain ⟨o,ho,he⟩:=List.mem_map.1 ht; exact ⟨o,ho,he⟩))))).trans ((clean_fr ctl.keep σ').weak fun t ht => .inr ht)
  cases draw with
  | true =>
   simp only [awp,awpR,cleanK_eq,forceL_eq] at hk ⊢
   refine freezeK_mf (fun τ hz hk => ?_) hk
   split at hk
   ·rename_i hc2
    rw [if_pos hc2]
    exact drawA_mf hI (fun σ' hf hk => h _ _ (hc τ σ' hz hf) hk) hk
   ·exact hk.elim
  | false =>
   simp only [awp,awpR,cleanK_eq] at hk ⊢
   refine freezeK_mf (fun τ hz hk => ?_) hk
   split at hk
   ·rename_i hm
    rw [if_pos hm]
    exact aopsM_mf hI _ (fun o ho => List.mem_map.2 ⟨o,ho,rfl⟩) (fun σ' hf hk => h _ _ (hc τ σ' hz hf) hk) hk
   rename_i hm
   rw [if_neg hm]
   exact aops_mf hI _ (fun o ho => List.mem_map.2 ⟨o,ho,rfl⟩) (fun σ' hf hk => h _ _ (hc τ σ' hz hf) hk) hk
 | seq a b iha ihb =>
  intro n σ K K' h hk
  have ha:∀ {σ σ'},FrD (CD ctl a) σ σ' → FrD (CD ctl (.seq a b)) σ σ':=fun hf => hf.weak fun t ht => ht.imp dsts_seq.1 id
  have hb:∀ {σ σ'},FrD (CD ctl b) σ σ' → FrD (CD ctl (.seq a b)) σ σ':=fun hf => hf.weak fun t ht => ht.imp dsts_seq.2 id
  simp only [awp,awpR] at hk ⊢
  split at hk
  ·rename_i p hp
   unfold joinK at hk ⊢
   split at hk
   case isFalse => exact hk.elim
   rename_i hin
   rw [if_pos hin]
   obtain ⟨J,h1,h2⟩:=hk
   refine ⟨J,iha (fun e σ' hf hk => ?_) h1,headKC_mono (fun gs ls bs hk hj => ihb (fun e σ' hf hk => h _ _ ?_ hk) (hk hj)) h2⟩
   ·cases e with
    | normal => exact hk
    | exit i => exact h _ _ (ha hf) hk
    | ret => exact h _ _ (ha hf) hk
   ·exact (ha (headC_fr hin)).trans (hb hf)
  ·refine iha (fun e σ' hf hk => ?_) hk
   cases e with
   | normal => exact ihb (fun e σ'' hf' hk => h _ _ ((ha hf).trans (hb hf')) hk) hk
   | exit i => exact h _ _ (ha hf) hk
   | ret => exact h _ _ (ha hf) hk
 | cond c a b iha ihb =>
  intro n σ K K' h hk
  have ha:∀ {σ σ'},FrD (CD ctl a) σ σ' → FrD (CD ctl (.cond c a b)) σ σ':=fun hf => hf.weak fun t ht => ht.imp dsts_seq.1 id
  have hb:∀ {σ σ'},FrD (CD ctl b) σ σ' → FrD (CD ctl (.cond c a b)) σ σ':=fun hf => hf.weak fun t ht => ht.imp dsts_seq.2 id
  simp only [awp,awpR] at hk ⊢
  split at hk
  ·exact iha (fun e σ' hf hk => h _ _ (ha hf) hk) hk
  ·exact ihb (fun e σ' hf hk => h _ _ (hb hf) hk) hk
  ·exact br_mono (iha (fun e σ' hf hk => h _ _ (ha hf) hk)) (ihb (fun e σ' hf hk => h _ _ (hb hf) hk)) hk
  ·exact hk.elim
 | block id b ih =>
  intro n σ K K' h hk
  simp only [awp,awpR] at hk ⊢
  refine ih (fun e σ' hf hk => ?_) hk
  cases e with
  | normal => exact h _ _ hf hk
  | exit i =>
   simp only at hk ⊢
   split at hk
   ·rename_i hi; rw [if_pos hi]; exact h _ _ hf hk
   ·rename_i hi; rw [if_neg hi]; exact h _ _ hf hk
  | ret => exact h _ _ hf hk
 | loop b ih =>
  intro n σ K K' h hk
  simp only [awp,awpR] at hk ⊢
  split at hk
  ·rename_i p hp
   unfold loopK at hk ⊢
   split at hk
   case isFalse => exact hk.elim
   rename_i hin
   rw [if_pos hin]
   obtain ⟨I,h1,h2⟩:=hk
   refine ⟨I,h1,fun m => headKC_mono (fun gs ls bs hk hj => ih (fun e σ' hf hk => ?_) (hk hj)) (h2 m)⟩
   have hff:FrD (CD ctl (.loop b)) σ σ':=(FrD.weak (headC_fr hin) fun t ht => ht).trans (hf.weak fun t ht => ht)
   cases e with
   | normal => exact hk
   | exit i => exact h _ _ hff hk
   | ret => exact h _ _ hff hk
  ·have key:∀ (m:Nat) {σ1:St},FrD (CD ctl (.loop b)) σ σ1 → iterK (awpR P S ctl b n) m σ1 K → iterK (awpR P S ctl b n) m σ1 K':=by
    intro m
    induction m with
    | zero => intro σ1 _ hk; exact hk.elim
    | succ m ihm =>
     intro σ1 h1 hk
     refine ih (fun e σ2 hf hk => ?_) hk
     have hff:FrD (CD ctl (.loop b)) σ σ2:=h1.trans (hf.weak fun t ht => ht)
     cases e with
     | normal => exact ihm hff hk
     | exit i => exact h _ _ hff hk
     | ret => exact h _ _ hff hk
   exact key 8 (.refl ..) hk
 | exit id => intro n σ K K' h hk; exact h _ _ (.refl ..) hk
 | ret => intro n σ K K' h hk; exact h _ _ (.refl ..) hk
 | rangeFunc g ps x y ihx ihy =>
  intro n σ K K' h hk
  simp only [awp,awpR] at hk ⊢
  split at hk
  case h_2 => exact hk.elim
  rename_i p hp
  split at hk
  case isFalse => exact hk.elim
  rename_i hnr
  rw [if_pos hnr]
  unfold rangeA at hk ⊢
  split at hk
  case h_2 => exact hk.elim
  split at hk
  case h_2 => exact hk.elim
  split at hk
  case isFalse => exact hk.elim
  rename_i hc
  rw [if_pos hc]
  simp only [Bool.and_eq_true] at hc
  have hin:patIn [] p = true:=hc.2
  obtain ⟨xs,h1,h2,I,h3,h4,h5⟩:=hk
  have h0:∀ (sl:List AV) (bx bx':List (Option Bx)),FrD (CD ctl (.rangeFunc g ps x y)) σ ⟨sl,bx⟩ → FrD (CD ctl (.rangeFunc g ps x y)) σ ⟨sl,bx'⟩:=fun sl bx bx' hf => ⟨hf.1,hf.2⟩
  have hs0:FrD (CD ctl (.rangeFunc g ps x y)) σ ⟨(slotOf g ++ (ctl.fz.filter (fun q:Nat × Nat => decide (q.2 < 1000000000))).map (fun q:Nat × Nat => q.2 % 1000000)).foldl (fun l t => l.set t .undef) σ.sl,σ.bx⟩:=by
   refine ⟨foldl_set_len _,fun t ht => foldl_set_getD _ t fun hm => ht (.inl ?_)⟩
   rcases List.mem_append.1 hm with hm | hm
   case inr => exact List.mem_append_right _ hm
   refine List.mem_append_left _ ?_
   unfold slotOf at hm
   cases g with
   | tmp q => simp only [List.mem_singleton] at hm; subst hm; simp [dstsC]
   | _ => simp at hm
  refine ⟨xs,h1,h2,I,h3,fun i => allL_mono _ (fun z hk hz => headKC_mono (fun gs ls bs hk hj => ?_) (hk hz)) (h4 i),headKC_mono (fun gs ls bs hk hj => h _ _ ?_ (hk hj)) h5⟩
  ·have hk:=hk hj
   split at hk
   ·rename_i hl
    rw [if_pos hl]
    refine ihx (fun e σa _ hk => ?_) hk
    cases e with
    | normal =>
     dsimp only at hk ⊢
     split at hk
     ·rename_i hl2
      rw [if_pos hl2]
      refine ihy (fun e σ1 _ hk => ?_) hk
      split at hk
      case isFalse => exact hk.elim
      rename_i hbk
      rw [if_pos hbk]
      cases e with
      | normal => exact hk
      | exit i => exact h _ _ (h0 _ _ _ ((h0 _ _ _ hs0).trans ((headC_fr (p:=p.res n _) hin).weak fun t ht => ht.elim (fun h => by cases h) .inr))) hk
      | ret => exact h _ _ (h0 _ _ _ ((h0 _ _ _ hs0).trans ((headC_fr (p:=p.res n _) hin).weak fun t ht => ht.elim (fun h => by cases h) .inr))) hk
     ·exact hk.elim
    | exit i => exact hk.elim
    | ret => exact hk.elim
   ·exact hk.elim
  ·exact (h0 _ _ _ hs0).trans ((headC_fr (p:=p.res n _) hin).weak fun t ht => ht.elim (fun h => by cases h) .inr)
 | scope b _ => intro n σ K K' h hk; exact hk.elim
 | label l => intro n σ K K' h hk; exact hk.elim
 | goto l => intro n σ K K' h hk; exact hk.elim
 | refuse s => intro n σ K K' h hk; exact hk.elim

theorem iterN_more (hI:InlMf S.inl) {ctl:Ctl} {b:Code} {K:Ex → St → Prop}:∀ {m k:Nat} {σ:St},m ≤ k → iterN n (awp P S n ctl b) m σ K → iterN n (awp P S n ctl b) k σ K:=by
 intro m
 induction m with
 | zero => intro k σ _ h; exact h.elim
 | succ m ih =>
  intro k σ hk h
  cases k with
  | zero => omega
  | succ k =>
   refine awp_mf hI b (fun e σ' _ h => ?_) h
   cases e with
   | normal => obtain ⟨σ'',hw,h⟩:=h; exact ⟨σ'',hw,ih (by omega) h⟩
   | exit i => exact h
   | ret => exact h

theorem loopK_iter (hI:InlMf S.inl) {ctl:Ctl} {b:Code} {p:Pat} {σ:St} {K:Ex → St → Prop} (h:loopK P n ctl.keep (ctl.dsts b) p (awp P S n ctl b) σ K):∃ σ',Weaker n σ σ' ∧ ∃ m,iterN n (awp P S n ctl b) m σ' K:=by
 unfold loopK at h
 split at h
 case isFalse => exact h.elim
 rename_i hin
 obtain ⟨I,h1,h2⟩:=h
 have key:∀ (m:Nat) (gs:List AV) (ls:List (List AV)) (bs:List AV),I m (headV gs ls bs) → fitL (p.gen.map (·.2)) gs = true → ls.length = p.app.length + p.cap.length → fitL (p.bgen.map (·.2)) bs = true →
   iterN n (awp P S n ctl b) (m + 1) (dropC p.cap (headSt P n (ctl.keep ++ capSl σ.sl.length p.cap) (ctl.dsts b ++ capSl σ.sl.length p.cap) (p.up σ.sl.length) (liftC p.cap σ) gs ls bs)) K:=by
  intro m
  induction m using Nat.strongRecOn with
  | _ m ih =>
   intro gs ls bs hI' h3 h4 h5
   refine awp_mf hI b (fun e σ' hf hk => ?_) (headKC_fit h3 h4 h5 (h2 m) hI')
   cases e with
   | exit i => exact hk
   | ret => exact hk
   | normal =>
    have hff:=(headC_fr (P:=P) (n:=n) (keep:=ctl.keep) (σ:=σ) (gs:=gs) (ls:=ls) (bs:=bs) hin).trans (hf.weak fun t ht => ht)
    obtain ⟨gs',ls',bs',⟨k,hk,hI'⟩,h3,h4,h5,hw⟩:=toHeadC_spec hff.1 (fun t h1 h2 => hff.2 t (by simp only [not_or,Classical.not_not]; exact ⟨h2,h1⟩)) (by simp) hk
    exact ⟨_,hw,iterN_more hI (by omega) (ih k hk gs' ls' bs' hI' h3 h4 h5)⟩
 obtain ⟨gs,ls,bs,⟨m,hI'⟩,h3,h4,h5,hw⟩:=toHeadC_spec rfl (fun _ _ _ => rfl) (fun _ => rfl) h1
 exact ⟨_,hw,_,key m gs ls bs hI' h3 h4 h5⟩
theorem joinK_seq (hI:InlMf S.inl) {ctl:Ctl} {a:Code} {g:St → (Ex → St → Prop) → Prop} {p:Pat} {σ:St} {K:Ex → St → Prop} (h:joinK P n ctl.keep (ctl.dsts a) p (awp P S n ctl a) g σ K) :
  awp P S n ctl a σ fun e σ1 => match e with
   | .normal => ∃ σ',Weaker n σ1 σ' ∧ g σ' K
   | e => K e σ1:=by
 unfold joinK at h
 split at h
 case isFalse => exact h.elim
 rename_i hin
 obtain ⟨J,h1,h2⟩:=h
 refine awp_mf hI a (fun e σ' hf hk => ?_) h1
 cases e with
 | exit i => exact hk
 | ret => exact hk
 | normal =>
  obtain ⟨gs,ls,bs,hJ,h3,h4,h5,hw⟩:=toHeadC_spec hf.1 (fun t h1 h2 => hf.2 t (by simp only [CD,not_or,Classical.not_not]; exact ⟨h2,h1⟩)) (by simp) hk
  exact ⟨_,hw,headKC_fit h3 h4 h5 h2 hJ⟩
end
end Go.Proofs.YtblebiafhhhflaaGreat

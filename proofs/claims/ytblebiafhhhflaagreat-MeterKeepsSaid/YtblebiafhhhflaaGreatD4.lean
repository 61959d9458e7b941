/- Each operation alone, for all operations that may stand in a region of any order. -/
import Derived.Test.YtblebiafhhhflaaGreatD3
namespace Go.Proofs.YtblebiafhhhflaaGreat
open Go.RowKit

theorem upd_nil (σ:St) (d:Option Nat) (v:AV):σ.upd d v [] = σ.put d v:=by cases d <;> rfl
theorem Agree.ev {ops:Array Oper} {o:Oper} {R:List Nat} {σ τ:St} (h:Agree ops o R σ τ) (x:Operand) (hx:x ∈ o.op.operands):ev σ x = ev τ x:=by
 cases x with
 | tmp t => exact h.sl t (List.mem_append_left _ (List.mem_filterMap.2 ⟨.tmp t,by simpa using hx,rfl⟩))
 | _ => rfl
theorem map_ev {ops:Array Oper} {o:Oper} {R:List Nat} {σ τ:St} (h:Agree ops o R σ τ) (l:Array Operand) (hl:∀ x ∈ l,x ∈ o.op.operands):l.toList.map (ev σ) = l.toList.map (ev τ) :=
 List.map_congr_left fun x hx => h.ev x (hl x (by simpa using hx))

section
variable {P:Program} {S:Specs} {n:Nat}

theorem loadA_local {t:TypeId} {σ:St} {x:AV} {K:AV → Prop} (h:loadA P t σ x K):∃ v,K v ∧ ∀ τ:St,(∀ b ∈ addrB x,σ.bx.getD b none = τ.bx.getD b none) → ∀ K',K' v → loadA P t τ x K':=by
 unfold loadA at h
 split at h
 ·rename_i cs off
  split at h
  ·rename_i v hv
   exact ⟨v,h,fun τ _ K' hk => by simp only [loadA,hv]; exact hk⟩
  ·exact h.elim
 ·rename_i b off
  split at h
  ·rename_i y hy
   split at h
   ·exact h.elim
   rename_i hm
   split at h
   ·rename_i ha
    obtain ⟨v,h1,h2⟩:=exT_ang _ _ h
    refine ⟨v,h1.2,fun τ ht K' hk => ?_⟩
    simp only [loadA,← ht b (by simp [addrB]),hy]
    rw [if_neg hm,if_pos ha]
    exact h2 _ ⟨h1.1,hk⟩
   ·rename_i ha
    split at h
    ·rename_i v hv
     refine ⟨v,h,fun τ ht K' hk => ?_⟩
     simp only [loadA,← ht b (by simp [addrB]),hy]
     rw [if_neg hm,if_neg ha,hv]
     exact hk
    ·exact h.elim
  ·exact h.elim
 ·exact h.elim
theorem storeA_local {t:TypeId} {σ:St} {a v:AV} {K:St → Prop} (h:storeA P t σ a v K):∃ b x,addrB a = [b] ∧ b < σ.bx.length ∧ K { σ with bx:=σ.bx.set b (some x) } ∧
  ∀ τ:St,(∀ b ∈ addrB a,σ.bx.getD b none = τ.bx.getD b none) → ∀ K':St → Prop,K' { τ with bx:=τ.bx.set b (some x) } → storeA P t τ a v K':=by
 unfold storeA at h
 split at h
 ·rename_i b off
  split at h
  ·rename_i y hy
   have hlt:=lt_of_bx hy
   split at h
   ·rename_i hc
    split at h
    ·exact h.elim
    rename_i hm
    split at h
    ·rename_i ha
     split at h
     ·rename_i ht
      refine ⟨b,_,rfl,hlt,h.2,fun τ hτ K' hk => ?_⟩
      simp only [storeA,← hτ b (by simp [addrB]),hy]
      rw [if_pos hc,if_neg hm,if_pos ha,if_pos ht]
      exact ⟨h.1,hk⟩
     ·exact h.elim
    ·rename_i ha
     split at h
     ·rename_i hl
      refine ⟨b,_,rfl,hlt,h,fun τ hτ K' hk => ?_⟩
      simp only [storeA,← hτ b (by simp [addrB]),hy]
      rw [if_pos hc,if_neg hm,if_neg ha,if_pos hl]
      exact hk
     ·exact h.elim
   ·exact h.elim
  ·exact h.elim
 ·exact h.elim

theorem FreshP.kill {d b:Nat} {σ:St} (h:FreshP n d σ):FreshP n d { σ with bx:=σ.bx.set b none } :=
 ⟨h.1,fun i x hi hx => by
  have hx:(σ.bx.set b none).getD i none = some x:=hx
  rw [box_set] at hx
  split at hx
  ·cases hx
  ·exact h.2 i x hi hx⟩
theorem mkBox_local {d:Nat} {x:Bx} {p:AV} {σ:St} {K:St → Prop} (h:mkBox n d x p σ K):n + d < σ.bx.length ∧ K { sl:=σ.sl.set d p,bx:=σ.bx.set (n + d) (some x) } ∧
  ∀ τ:St,σ.sl.length = τ.sl.length → σ.bx.length = τ.bx.length → FreshP n d τ → ∀ K':St → Prop,K' { sl:=τ.sl.set d p,bx:=τ.bx.set (n + d) (some x) } → mkBox n d x p τ K':=by
 simp only [mkBox] at h
 split at h
 ·rename_i hc
  simp only [Bool.and_eq_true,decide_eq_true_eq] at hc
  refine ⟨hc.2,h,fun τ l1 l2 hF K' hk => ?_⟩
  simp only [mkBox]
  rw [if_pos]
  ·exact hk
  ·have:=freshB_of hF
   simp only [freshB] at this
   simp only [this,Bool.and_eq_true,decide_eq_true_eq]
   exact ⟨⟨⟨⟨hc.1.1.1.1,trivial⟩,hc.1.1.2⟩,by rw [← l1]; exact hc.1.2⟩,by rw [← l2]; exact hc.2⟩
 ·exact h.elim
theorem withCells_local {k:Nat} {σ:St} {x:AV} {K:Nat → List AV → Prop} (h:withCells σ k x K):∃ m cs,K m cs ∧
  ∀ τ:St,(∀ b ∈ sliceB x,σ.bx.getD b none = τ.bx.getD b none) → ∀ K':Nat → List AV → Prop,K' m cs → withCells τ k x K':=by
 unfold withCells at h
 split at h
 ·exact ⟨_,_,h.2,fun τ _ K' hk => ⟨h.1,hk⟩⟩
 ·rename_i b off len esz ag
  split at h
  ·rename_i cs hb
   refine ⟨_,_,h.2,fun τ hτ K' hk => ?_⟩
   have:τ.boxN b = some cs:=by
    rw [← hb]
    unfold St.boxN
    rw [hτ b (by simp [sliceB])]
   simp only [withCells,this]
   exact ⟨h.1,hk⟩
  ·exact h.elim
 ·exact h.elim
theorem appendA_local {ts:List TypeId} {s x:AV} {d:Nat} {σ:St} {K:St → Prop} (h:appendA P n ts s x d σ K) :
  ∃ v y,n + d < σ.bx.length ∧ K (σ.upd (some d) v ((sliceB s).map (fun b => (b,none)) ++ [(n + d,some y)])) ∧
   ∀ τ:St,(∀ b ∈ sliceB s ++ sliceB x,σ.bx.getD b none = τ.bx.getD b none) → σ.sl.length = τ.sl.length → σ.bx.length = τ.bx.length → FreshP n d τ →
    ∀ K':St → Prop,K' (τ.upd (some d) v ((sliceB s).map (fun b => (b,none)) ++ [(n + d,some y)])) → appendA P n ts s x d τ K':=by
 unfold appendA at h
 split at h
 ·rename_i t t2
  split at h
  ·rename_i e e2 hu hu2
   split at h
   ·exact h.elim
   ·rename_i hc
    obtain ⟨m,cs,h1,h2⟩:=withCells_local h
    have key:∀ τ:St,(∀ b ∈ sliceB s ++ sliceB x,σ.bx.getD b none = τ.bx.getD b none) → ∀ K',_ → appendA P n [t,t2] s x d τ K':=fun τ hτ K' hk => by
     simp only [appendA,hu,hu2]
     rw [if_neg hc]
     exact h2 τ (fun b hb => hτ b (List.mem_append_right _ hb)) _ hk
    split at h1
    ·obtain ⟨q1,q2,q3⟩:=mkBox_local h1.2
     exact ⟨_,_,q1,q2,fun τ hτ l1 l2 hF K' hk => key τ hτ K' ⟨h1.1,q3 τ l1 l2 hF K' hk⟩⟩
    ·obtain ⟨q1,q2,q3⟩:=mkBox_local h1.2
     exact ⟨_,_,q1,q2,fun τ hτ l1 l2 hF K' hk => key τ hτ K' ⟨h1.1,q3 τ l1 l2 hF K' hk⟩⟩
    ·rename_i b len esz ag
     split at h1
     ·rename_i bx hb
      split at h1
      ·rename_i hcc
       obtain ⟨q1,q2,q3⟩:=mkBox_local h1.2
       refine ⟨_,_,by simpa using q1,q2,fun τ hτ l1 l2 hF K' hk => key τ hτ K' ?_⟩
       simp only [← hτ b (by simp [sliceB]),hb]
       rw [if_pos hcc]
       exact ⟨h1.1,q3 { τ with bx:=τ.bx.set b none } l1 (by simpa using l2) hF.kill K' hk⟩
      ·exact h1.elim
     ·exact h1.elim
    ·exact h1.elim
  ·exact h.elim
 ·exact h.elim
theorem fpW_call {frs:Ways} {o:Oper} {c:Call} {σ σ':St} {l:List AV} (ho:o.op = .call c) (hl:argsA σ c = some l) :
  fpW n frs o σ σ' = (((AV.aslcsL l).map (·.1)).filter fun b => (σ'.bx.getD b none).isNone) ++ (wrB frs σ c ++ frW n frs c o.dst):=by
 obtain ⟨callee,args,ats⟩:=c
 cases callee with
 | builtin b => cases hl
 | _ => simp only [fpW,ho,snapsA,hl]
theorem kills_len:∀ (l:List Nat) (bx:List (Option Bx)),((l.map fun b => (b,(none:Option Bx))).foldl (fun l e => l.set e.1 e.2) bx).length = bx.length
 | [],_ => rfl
 | b :: r,bx => by
  rw [List.map_cons,List.foldl_cons,kills_len r]
  simp
theorem isIl_val {w:Ways} {σ:St} {f:Operand} {args:Array Operand} {ats:Array TypeId} {g:FuncId} {first caps:List AV} (hnff:∀ h,f ≠ .func h) (hfv:ev σ f = .fn g first caps)
  (h:isIl w σ ⟨.value f,args,ats⟩ = false):w.il.lookup g = none:=by
 have key:(w.il.lookup g).isSome = false:=by
  unfold isIl at h
  cases f with
  | func g2 => exact absurd rfl (hnff g2)
  | tmp t => simp only [hfv] at h; exact h
  | const t => simp only [hfv] at h; exact h
  | global t => simp only [hfv] at h; exact h
 cases hh:w.il.lookup g with
 | none => rfl
 | some x => rw [hh] at key; cases key
theorem aop_local {ops:Array Oper} {o:Oper} {σ:St} {K:St → Prop} {R F:List Nat} (hf:fpR P S.frs o σ = some (R,F)) (h:aop P S n o σ K) :
  ∃ v U,K (σ.upd o.dst v U) ∧ (∀ e ∈ U,e.1 ∈ fpW n S.frs o σ (σ.upd o.dst v U) ∧ ∀ x,e.2 = some x → (σ.upd o.dst v U).bx.getD e.1 none = some x) ∧
   ∀ τ,Agree ops o R σ τ → (∀ d ∈ F,FreshP n d τ) → ∀ K',K' (τ.upd o.dst v U) → aop P S n o τ K':=by
 have pur:∀ v,K (σ.put o.dst v) → (∀ τ,Agree ops o R σ τ → ∀ K':St → Prop,K' (τ.put o.dst v) → aop P S n o τ K') → ∃ v U,K (σ.upd o.dst v U) ∧ (∀ e ∈ U,e.1 ∈ fpW n S.frs o σ (σ.upd o.dst v U) ∧ ∀ x,e.2 = some x → (σ.upd o.dst v U).bx.getD e.1 none = some x) ∧
   ∀ τ,Agree ops o R σ τ → (∀ d ∈ F,FreshP n d τ) → ∀ K',K' (τ.upd o.dst v U) → aop P S n o τ K':=fun v h1 h2 =>
  ⟨v,[],by rw [upd_nil]; exact h1,by simp,fun τ ha _ K' hk => h2 τ ha K' (by rw [upd_nil] at hk; exact hk)⟩
 have pop:∀ (op:Op),op = o.op → (∀ τ K',aop P S n o τ K' = match popA P (ev τ) op with | some v => K' (τ.put o.dst v) | none => False) → ∃ v U,K (σ.upd o.dst v U) ∧ (∀ e ∈ U,e.1 ∈ fpW n S.frs o σ (σ.upd o.dst v U) ∧ ∀ x,e.2 = some x → (σ.upd o.dst v U).bx.getD e.1 none = some x) ∧
   ∀ τ,Agree ops o R σ τ → (∀ d ∈ F,FreshP n d τ) → ∀ K',K' (τ.upd o.dst v U) → aop P S n o τ K':=by
  intro op ho he
  rw [he] at h
  split at h
  ·rename_i v hv
   refine pur v h fun τ ha K' hk => ?_
   rw [he,← popA_congr (e:=ev σ) fun x hx => ha.ev x (by rw [← ho]; exact hx),hv]
   exact hk
  ·exact h.elim
 have ang:∀ (G:St → (AV → Prop) → Prop),(∀ τ K',aop P S n o τ K' = G τ fun v => K' (τ.put o.dst v)) → (∀ τ,Ang (G τ)) → (∀ τ,Agree ops o R σ τ → G σ = G τ) → ∃ v U,K (σ.upd o.dst v U) ∧ (∀ e ∈ U,e.1 ∈ fpW n S.frs o σ (σ.upd o.dst v U) ∧ ∀ x,e.2 = some x → (σ.upd o.dst v U).bx.getD e.1 none = some x) ∧
   ∀ τ,Agree ops o R σ τ → (∀ d ∈ F,FreshP n d τ) → ∀ K',K' (τ.upd o.dst v U) → aop P S n o τ K':=by
  intro G hG hA hE
  rw [hG] at h
  obtain ⟨v,h1,h2⟩:=hA σ _ h
  refine pur v h1 fun τ ha K' hk => ?_
  rw [hG,← hE τ ha]
  exact h2 _ hk
 obtain ⟨dst,op,type,pos,after,guard⟩:=o
 cases op with
 | alloc t =>
  simp only [aop] at h
  cases dst with
  | none => exact h.elim
  | some d =>
   simp only [fpR,Option.some.injEq,Prod.mk.injEq] at hf
   obtain ⟨rfl,rfl⟩:=hf
   cases hz:zeroA P t with
   | none => rw [hz] at h; exact h.elim
   | some z =>
    rw [hz] at h
    simp only [mkBox] at h
    split at h
    ·rename_i hc
     simp only [Bool.and_eq_true,decide_eq_true_eq] at hc
     refine ⟨.ref (n + d) 0,[(n + d,some ⟨t,false,z.cells⟩)],h,?_,?_⟩
     ·intro e he
      simp only [List.mem_singleton] at he
      subst he
      refine ⟨by simp [fpW],fun x hx => ?_⟩
      simp only [Option.some.injEq] at hx
      subst hx
      simp only [St.upd,List.foldl_cons,List.foldl_nil]
      rw [box_set,if_pos ⟨rfl,hc.2⟩]
     ·intro τ ha hF K' hk
      simp only [aop,hz,mkBox]
      rw [if_pos]
      ·exact hk
      ·have:=freshB_of (hF d (by simp))
       simp only [freshB] at this
       simp only [this,Bool.and_eq_true,decide_eq_true_eq]
       exact ⟨⟨⟨⟨hc.1.1.1.1,trivial⟩,hc.1.1.2⟩,by rw [← ha.l1]; exact hc.1.2⟩,by rw [← ha.l2]; exact hc.2⟩
    ·exact h.elim
 | box t x => simp [fpR] at hf
 | convert s d x =>
  simp only [aop] at h
  split at h
  ·rename_i v hb
   refine pur v h fun τ ha K' hk => ?_
   simp only [aop]
   rw [← ha.ev x (by simp [Op.operands]),hb]
   exact hk
  ·rename_i hb
   split at h
   ·rename_i v hv
    refine pur v h fun τ ha K' hk => ?_
    simp only [aop]
    rw [← ha.ev x (by simp [Op.operands]),hb]
    simp only
    rw [← popA_congr (e:=ev σ) fun z hz => ha.ev z hz,hv]
    exact hk
   ·exact h.elim
 | buildSlice t len ps =>
  have hno:ownD S.frs dst = none:=by
   simp only [fpR] at hf
   split at hf
   ·cases hf
   ·rename_i hn
    cases hh:ownD S.frs dst with
    | none => rfl
    | some d => rw [hh] at hn; simp at hn
  simp only [aop,hno] at h
  split at h
  ·rename_i e hu
   split at h
   ·rename_i z hz
    split at h
    ·rename_i hc
     split at h
     ·rename_i out hfl
      split at h
      ·rename_i hto
       refine pur _ h fun τ ha K' hk => ?_
       have hps:(ps.toList.map fun p => (p.1,ev τ p.2)) = ps.toList.map fun p => (p.1,ev σ p.2):=List.map_congr_left fun p hp => by
        rw [ha.ev p.2 (by simp only [Op.operands]; exact List.mem_toArray.2 (List.mem_map.2 ⟨p,hp,rfl⟩))]
       simp only [aop,hu,hz,hps,hno]
       rw [if_pos hc,hfl]
       simp only
       rw [if_pos hto]
       exact hk
      ·exact h.elim
     ·exact h.elim
    ·exact h.elim
   ·exact h.elim
  ·exact h.elim
 | makeSlice t l c => simp [fpR] at hf
 | makeMap t r => simp [fpR] at hf
 | lookup t x k ok => simp [fpR] at hf
 | mapUpdate t x k v => simp [fpR] at hf
 | slice t x lo hi mx => simp [fpR] at hf
 | load t x =>
  simp only [fpR,Option.some.injEq,Prod.mk.injEq] at hf
  obtain ⟨rfl,rfl⟩:=hf
  simp only [aop] at h
  obtain ⟨v,h1,h2⟩:=loadA_local h
  refine pur v h1 fun τ ha K' hk => ?_
  simp only [aop]
  rw [← ha.ev x (by simp [Op.operands])]
  exact h2 τ ha.bx _ hk
 | store t a x =>
  simp only [fpR,Option.some.injEq,Prod.mk.injEq] at hf
  obtain ⟨rfl,rfl⟩:=hf
  simp only [aop] at h
  obtain ⟨b,y,h0,hlt,h1,h2⟩:=storeA_local h
  refine ⟨.tup [],[(b,some y)],?_,?_,?_⟩
  ·have:σ.upd dst (.tup []) [(b,some y)] = ({ σ with bx:=σ.bx.set b (some y) }:St).put dst (.tup []):=by cases dst <;> rfl
   rw [this]; exact h1
  ·intro e he
   simp only [List.mem_singleton] at he
   subst he
   refine ⟨by simp [fpW,h0],fun x hx => ?_⟩
   simp only [Option.some.injEq] at hx
   subst hx
   simp only [St.upd,List.foldl_cons,List.foldl_nil]
   rw [box_set,if_pos ⟨rfl,hlt⟩]
  ·intro τ ha _ K' hk
   simp only [aop]
   rw [← ha.ev a (by simp [Op.operands]),← ha.ev x (by simp [Op.operands])]
   refine h2 τ ha.bx _ ?_
   have:τ.upd dst (.tup []) [(b,some y)] = ({ τ with bx:=τ.bx.set b (some y) }:St).put dst (.tup []):=by cases dst <;> rfl
   rw [this] at hk; exact hk
 | indexAddr t x i => exact ang (fun τ => indexAddrA P S.frs t (ev τ x) (ev τ i)) (fun _ _ => rfl) (fun _ => indexAddrA_ang) fun τ ha => by rw [ha.ev x (by simp [Op.operands]),ha.ev i (by simp [Op.operands])]
 | index t x i => exact ang (fun τ => indexA P t (ev τ x) (ev τ i)) (fun _ _ => rfl) (fun _ => indexA_ang) fun τ ha => by rw [ha.ev x (by simp [Op.operands]),ha.ev i (by simp [Op.operands])]
 | binOp op t x y yt =>
  have hn:nilCmp P op t (ev σ x) (ev σ y) = none:=by
   simp only [fpR] at hf
   split at hf
   ·cases hf
   ·rename_i hn
    cases hh:nilCmp P op t (ev σ x) (ev σ y) with
    | none => rfl
    | some z => exact absurd (by rw [hh]; rfl) hn
  have hd:∀ op',(∀ τ K',aop P S n ⟨dst,.binOp op t x y yt,type,pos,after,guard⟩ τ K' = divA op' (ev τ x) (ev τ y) fun v => K' (τ.put dst v)) → _:=fun op' hG =>
   ang (fun τ => divA op' (ev τ x) (ev τ y)) hG (fun _ => divA_ang) fun τ ha => by rw [ha.ev x (by simp [Op.operands]),ha.ev y (by simp [Op.operands])]
  cases op with
  | quo => exact hd .quo fun _ _ => rfl
  | rem => exact hd .rem fun _ _ => rfl
  | shl => exact hd .shl fun _ _ => rfl
  | shr => exact hd .shr fun _ _ => rfl
  | _ =>
   simp only [aop,hn] at h
   split at h
   ·rename_i v hv
    refine pur v h fun τ ha K' hk => ?_
    simp only [aop]
    rw [← ha.ev x (by simp [Op.operands]),← ha.ev y (by simp [Op.operands]),hn]
    simp only
    rw [← popA_congr (e:=ev σ) fun z hz => ha.ev z hz,hv]
    exact hk
   ·exact h.elim
 | call c =>
  obtain ⟨callee,args,ats⟩:=c
  have cal:∀ (f:FuncId) (l:List AV),argsA σ ⟨callee,args,ats⟩ = some l → fpR P S.frs ⟨dst,.call ⟨callee,args,ats⟩,type,pos,after,guard⟩ σ = (if (AV.refsL (AV.snapL σ.boxN l)).isEmpty then some ((AV.aslcsL l).map (·.1),[]) else if isRo S.frs σ ⟨callee,args,ats⟩ && roOK σ l (reachB σ l) then some (reachB σ l,[]) else if isWr S.frs σ ⟨callee,args,ats⟩ && wrOK σ l (reachB σ l) then some (reachB σ l,[]) else none) → (isRo S.frs σ ⟨callee,args,ats⟩ = true → S.frs.ro.contains f = true) → callA P S n f l dst σ K →
    (∀ τ,Agree ops ⟨dst,.call ⟨callee,args,ats⟩,type,pos,after,guard⟩ R σ τ → ∀ K',aop P S n ⟨dst,.call ⟨callee,args,ats⟩,type,pos,after,guard⟩ τ K' = callA P S n f l dst τ K') → ∃ v U,K (σ.upd dst v U) ∧ (∀ e ∈ U,e.1 ∈ fpW n S.frs ⟨dst,.call ⟨callee,args,ats⟩,type,pos,after,guard⟩ σ (σ.upd dst v U) ∧ ∀ x,e.2 = some x → (σ.upd dst v U).bx.getD e.1 none = some x) ∧
   ∀ τ,Agree ops ⟨dst,.call ⟨callee,args,ats⟩,type,pos,after,guard⟩ R σ τ → (∀ d ∈ F,FreshP n d τ) → ∀ K',K' (τ.upd dst v U) → aop P S n ⟨dst,.call ⟨callee,args,ats⟩,type,pos,after,guard⟩ τ K':=by
   intro f l hl hfp hisro hc hτ
   rw [hfp] at hf
   split at hf
   ·rename_i he
    simp only [Option.some.injEq,Prod.mk.injEq] at hf
    obtain ⟨rfl,rfl⟩:=hf
    obtain ⟨v,U,h1,h2,h3⟩:=callA_local (List.isEmpty_iff.1 he) hc
    refine ⟨v,U,h1,?_,fun τ ha _ K' hk => by rw [hτ τ ha]; exact h3 τ ha.bx K' hk⟩
    intro e hm
    rcases h2 with rfl | rfl
    ·simp at hm
    ·obtain ⟨b,hb,rfl⟩:=List.mem_map.1 hm
     refine ⟨?_,fun x hx => by simp at hx⟩
     rw [fpW_call rfl hl]
     refine List.mem_append_left _ (List.mem_filter.2 ⟨hb,?_⟩)
     simp only [St.upd,List.getD,kill_get]
     have:((AV.aslcsL l).map (·.1)).contains b = true:=by simpa using hb
     rw [this]
     cases σ.bx[b]? <;> simp
   ·split at hf
    ·rename_i hc2
     simp only [Bool.and_eq_true] at hc2
     simp only [Option.some.injEq,Prod.mk.injEq] at hf
     obtain ⟨rfl,rfl⟩:=hf
     obtain ⟨v,h1,h2⟩:=callA_ro_local (hisro hc2.1) hc2.2 hc
     exact pur v h1 fun τ ha K' hk => by rw [hτ τ ha]; exact h2 τ ha.bx K' hk
    ·split at hf
     ·rename_i hc3
      simp only [Bool.and_eq_true] at hc3
      simp only [Option.some.injEq,Prod.mk.injEq] at hf
      obtain ⟨rfl,rfl⟩:=hf
      obtain ⟨v,U,h1,h2,h3⟩:=callA_wr_local hc3.2 hc
      refine ⟨v,U,h1,fun e he => ⟨?_,(h2 e he).2⟩,fun τ ha _ K' hk => by rw [hτ τ ha]; exact h3 τ ha.bx K' hk⟩
      rw [fpW_call rfl hl]
      refine List.mem_append_right _ (List.mem_append_left _ ?_)
      unfold wrB
      rw [if_pos hc3.1,hl]
      exact (h2 e he).1
     ·cases hf
  cases hnf:isFr S.frs ⟨callee,args,ats⟩ with
  | true =>
   obtain ⟨g,rfl,hg⟩:∃ g,callee = .value (.func g) ∧ S.frs.fr.contains g = true:=by
    unfold isFr at hnf
    split at hnf
    ·rename_i f hc; exact ⟨f,hc,hnf⟩
    ·cases hnf
   simp only [fpR,hnf,if_true] at hf
   simp only [aop] at h
   rw [if_pos hg] at h
   have hG:∀ τ,Agree ops ⟨dst,.call ⟨.value (.func g),args,ats⟩,type,pos,after,guard⟩ R σ τ → ∀ K',aop P S n ⟨dst,.call ⟨.value (.func g),args,ats⟩,type,pos,after,guard⟩ τ K' = callG P S n g (args.toList.map (ev σ)) dst τ K':=fun τ ha K' => by
    rw [map_ev ha args (fun x hx => by simp [Op.operands,Call.operands,hx])]
    simp only [aop]
    rw [if_pos hg]
   unfold frR at hf
   split at hf
   ·cases hf
   rename_i hmut
   have hmut:isMut (args.toList.map (ev σ)) = none:=by
    cases hh:isMut (args.toList.map (ev σ)) with
    | none => rfl
    | some x => exact absurd (by rw [hh]; rfl) hmut
   split at hf
   ·rename_i b hb
    have hb:carryF P g = some b:=hb
    simp only [callG,hb] at h
    split at h
    ·rename_i hargs
     split at h
     ·rename_i hx hy hz
      refine pur _ h.2 fun τ ha K' hk => ?_
      rw [hG τ ha]
      simp only [callG,hb,hargs,hx,hy,hz]
      exact ⟨h.1,hk⟩
     ·exact h.elim
    ·exact h.elim
   ·rename_i hb
    have hb:carryF P g = none:=hb
    split at hf
    ·rename_i d
     simp only [Option.some.injEq,Prod.mk.injEq] at hf
     obtain ⟨rfl,rfl⟩:=hf
     simp only [callG,hb] at h
     unfold callF at h
     rw [hmut] at h
     simp only at h
     split at h
     ·rename_i d' e hd' he
      cases hd'
      split at h
      ·rename_i htt
       obtain ⟨es,hfr,hK⟩:=h
       obtain ⟨q1,q2,q3⟩:=mkBox_local hK
       refine ⟨_,[(n + d,some _)],q2,?_,fun τ ha hF K' hk => ?_⟩
       ·intro e2 he2
        simp only [List.mem_singleton] at he2
        subst he2
        refine ⟨?_,fun x hx => ?_⟩
        ·rw [fpW_call rfl rfl]
         refine List.mem_append_right _ (List.mem_append_right _ ?_)
         unfold frW
         rw [if_pos hnf]
         exact List.mem_singleton.2 rfl
        ·simp only [Option.some.injEq] at hx
         subst hx
         simp only [St.upd,List.foldl_cons,List.foldl_nil]
         rw [box_set,if_pos ⟨rfl,q1⟩]
       ·rw [hG τ ha]
        simp only [callG,hb]
        unfold callF
        rw [hmut]
        simp only [he]
        rw [if_pos htt]
        exact ⟨es,hfr,q3 τ ha.l1 ha.l2 (hF d (by simp)) K' hk⟩
      ·exact h.elim
     ·exact h.elim
    ·cases hf
  | false =>
  have hnl:isIl S.frs σ ⟨callee,args,ats⟩ = false:=by
   cases hh:isIl S.frs σ ⟨callee,args,ats⟩ with
   | false => rfl
   | true => simp only [fpR,hnf,hh,if_true] at hf; cases hf
  have cX:∀ g l τ K,S.frs.il.lookup g = none → callX P S n g l dst τ K = callA P S n g l dst τ K:=fun g l τ K hg => by unfold callX; rw [hg]; rfl
  cases callee with
  | value f =>
   have clos:∀ g first caps,(∀ h,f ≠ .func h) → ev σ f = .fn g first caps → callX P S n g (first ++ (args.toList.map (ev σ) ++ caps)) dst σ K → _:=fun g first caps hnff hfv hc =>
    have hgl:S.frs.il.lookup g = none :=
     isIl_val hnff hfv hnl
    cal g (first ++ (args.toList.map (ev σ) ++ caps)) (by cases f <;> simp_all [argsA]) (by simp only [fpR,hnf,hnl]; cases f <;> simp_all [argsA]) (by cases f <;> simp_all [isRo,calleeA]) (by rw [cX _ _ _ _ hgl] at hc; exact hc) fun τ ha K' => by
     have h1:=ha.ev f (by simp [Op.operands,Call.operands])
     have h2:=map_ev ha args (fun x hx => by simp [Op.operands,Call.operands,hx])
     rw [h2]
     rw [hfv] at h1
     cases f with
     | func g2 => exact absurd rfl (hnff g2)
     | tmp t => simp only [aop,← h1]; exact cX _ _ _ _ hgl
     | const t => simp only [aop,← h1]; exact cX _ _ _ _ hgl
     | global t => simp only [aop,← h1]; exact cX _ _ _ _ hgl
   cases f with
   | func g =>
    have hgl:S.frs.il.lookup g = none:=by
     have hnl:(S.frs.il.lookup g).isSome = false:=hnl
     cases hh:S.frs.il.lookup g with
     | none => rfl
     | some x => rw [hh] at hnl; cases hnl
    have hfr:S.frs.fr.contains g = false:=hnf
    simp only [aop] at h
    rw [if_neg (by rw [hfr]; simp),cX _ _ _ _ hgl] at h
    have hfp:fpR P S.frs ⟨dst,.call ⟨.value (.func g),args,ats⟩,type,pos,after,guard⟩ σ = (if (AV.refsL (AV.snapL σ.boxN (args.toList.map (ev σ)))).isEmpty then some ((AV.aslcsL (args.toList.map (ev σ))).map (·.1),[]) else if isRo S.frs σ ⟨.value (.func g),args,ats⟩ && roOK σ (args.toList.map (ev σ)) (reachB σ (args.toList.map (ev σ))) then some (reachB σ (args.toList.map (ev σ)),[]) else if isWr S.frs σ ⟨.value (.func g),args,ats⟩ && wrOK σ (args.toList.map (ev σ)) (reachB σ (args.toList.map (ev σ))) then some (reachB σ (args.toList.map (ev σ)),[]) else none):=by
     simp only [fpR,hnf,hnl]; rfl
    exact cal g (args.toList.map (ev σ)) rfl hfp id h fun τ ha K' => by
     rw [map_ev ha args (fun x hx => by simp [Op.operands,Call.operands,hx])]
     simp only [aop]
     rw [if_neg (by rw [hfr]; simp)]
     exact cX _ _ _ _ hgl
   | tmp t =>
    simp only [aop] at h
    split at h
    ·rename_i g first caps hfv; exact clos g first caps (by simp) hfv h
    ·exact h.elim
   | const c =>
    simp only [aop] at h
    split at h
    ·rename_i g first caps hfv; exact clos g first caps (by simp) hfv h
    ·exact h.elim
   | global g => exact h.elim
  | invoke r name =>
   have hil:S.frs.il = []:=by simpa [isIl] using hnl
   have hgl:∀ g,S.frs.il.lookup g = none:=fun g => by rw [hil]; rfl
   simp only [aop] at h
   split at h
   ·rename_i t v hr
    split at h
    ·rename_i g hg
     rw [cX _ _ _ _ (hgl g)] at h
     refine cal g (v :: args.toList.map (ev σ)) (by simp [argsA,hr]) (by simp only [fpR,hnf,hnl]; simp [argsA,hr]) (by simp [isRo,calleeA]) h fun τ ha K' => ?_
     have h1:=ha.ev r (by simp [Op.operands,Call.operands])
     rw [map_ev ha args (fun x hx => by simp [Op.operands,Call.operands,hx])]
     rw [hr] at h1
     simp only [aop,← h1,hg]
     exact cX _ _ _ _ (hgl g)
    ·exact h.elim
   ·exact h.elim
  | builtin b =>
   cases b with
   | append =>
    simp only [aop] at h
    have hx:∃ s x d,args.toList.map (ev σ) = [s,x] ∧ dst = some d ∧ appendA P n ats.toList s x d σ K:=by
     split at h
     ·rename_i hargs
      exact ⟨_,_,_,hargs,rfl,h⟩
     ·exact h.elim
    obtain ⟨s,x,d,hargs,rfl,h'⟩:=hx
    ·have hfp:fpR P S.frs ⟨some d,.call ⟨.builtin .append,args,ats⟩,type,pos,after,guard⟩ σ = appR (args.toList.map (ev σ)) (some d):=by
      simp only [fpR,hnf,hnl]; rfl
     rw [hfp,hargs] at hf
     simp only [appR,Option.some.injEq,Prod.mk.injEq] at hf
     obtain ⟨rfl,rfl⟩:=hf
     obtain ⟨v,y,hlt,h1,h2⟩:=appendA_local h'
     refine ⟨v,_,h1,?_,fun τ ha hF K' hk => ?_⟩
     ·intro e he
      simp only [fpW,hargs,appW]
      rcases List.mem_append.1 he with he | he
      ·obtain ⟨b,hb,rfl⟩:=List.mem_map.1 he
       exact ⟨List.mem_append_left _ hb,fun x hx => by cases hx⟩
      ·simp only [List.mem_singleton] at he
       subst he
       refine ⟨by simp,fun x hx => ?_⟩
       simp only [Option.some.injEq] at hx
       subst hx
       simp only [St.upd,List.foldl_append,List.foldl_cons,List.foldl_nil]
       rw [box_set,if_pos ⟨rfl,by rw [kills_len]; exact hlt⟩]
     ·have hm:=map_ev ha args (fun z hz => by simp [Op.operands,Call.operands,hz])
      rw [hargs] at hm
      simp only [aop,← hm]
      exact h2 τ ha.bx ha.l1 ha.l2 (hF d (by simp)) K' hk
   | _ => exact pop _ rfl fun _ _ => rfl
 | _ => exact pop _ rfl fun _ _ => rfl
end
end Go.Proofs.YtblebiafhhhflaaGreat

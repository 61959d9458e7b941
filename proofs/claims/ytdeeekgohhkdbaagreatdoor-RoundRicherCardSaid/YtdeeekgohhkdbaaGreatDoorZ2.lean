/- Functions that loops go over, and functions that are handed a yield: their own text followed; they may hold memory of their own from one yield to the next. Functions that yield: what is held between two yields. -/
import Derived.Test.YtdeeekgohhkdbaaGreatDoorG1
namespace Go.Proofs.YtdeeekgohhkdbaaGreatDoor
open Go.RowKit

def sameL (σ0 σ1:St):List Nat → Prop
 | [] => True
 | t :: r => σ1.sl.getD t .undef = σ0.sl.getD t .undef ∧ sameL σ0 σ1 r
def resOK (n M:Nat) (σ:St):Bool:=(List.range M).all (fun j => !live σ.bx (n + j)) && ((List.range n).all (live σ.bx) && decide (σ.bx.length = n + M + M))
def isSeg (w:Ways) (g:FuncId):Bool:=w.ro.contains (g + 998000000)
section
variable (P:Program) (S:Specs) (n M l:Nat) (Y:Nat → List AV → Prop) (Sg:FuncId → List AV → List (List AV) → List (List AV) → Prop)
def segA (g:FuncId) (args:List AV) (d:Option Nat) (i:Nat) (σ:St) (K:Option Nat → St → Prop):Prop :=
 match (reachB σ args).mapM (fun b => σ.bx.getD b none) with
 | some bs => if allLive σ && (resOK n M σ && roOK σ args (reachB σ args)) then
   ∃ xs:List (List AV),Sg g (AV.normL (AV.renL (idx · (reachB σ args)) args)) (bs.map fun x => AV.normL (AV.renL (idx · (reachB σ args)) x.cs)) xs ∧ (∀ (j:Nat) (x:List AV),xs[j]? = some x → Y (i + j) x) ∧
    K (some (i + xs.length)) (σ.put d .tt) ∧ K none (σ.put d .ff)
  else False
 | none => False
def aopZ (o:Oper) (i:Option Nat) (σ:St) (K:Option Nat → St → Prop):Prop :=
 match o.op with
 | .call c =>
  match c.callee with
  | .value (.func f) => if isSeg S.frs f then (match i with
    | some i => segA n M Y Sg f (c.args.toList.map (ev σ)) o.dst i σ K
    | none => False) else aop P S (n + M) o σ (K i)
  | .value f => match ev σ f with
   | .yld l' => (match i with
    | some i => if AV.treeL (c.args.toList.map (ev σ)) && (allLive σ && resOK n M σ) then
      l' = l ∧ Y i (AV.normL (c.args.toList.map (ev σ))) ∧ K (some (i + 1)) (σ.put o.dst .tt) ∧ K none (σ.put o.dst .ff) else False
    | none => False)
   | .fn g first caps => if isSeg S.frs g then (match i with
     | some i => segA n M Y Sg g (first ++ (c.args.toList.map (ev σ) ++ caps)) o.dst i σ K
     | none => False) else aop P S (n + M) o σ (K i)
   | _ => aop P S (n + M) o σ (K i)
  | _ => aop P S (n + M) o σ (K i)
 | _ => aop P S (n + M) o σ (K i)
def gopZ (dsts:List (Option Nat)) (o:Oper) (i:Option Nat) (σ:St) (K:Option Nat → St → Prop):Prop :=
 match o.guard with
 | none => aopZ P S n M l Y Sg o i σ K
 | some (j,want) =>
  match dsts[j]? with
  | some (some d) =>
   match σ.sl.getD d .undef with
   | .tt => if want then aopZ P S n M l Y Sg o i σ K else K i (σ.put o.dst (.tup []))
   | .ff => if want then K i (σ.put o.dst (.tup [])) else aopZ P S n M l Y Sg o i σ K
   | .bool b =>
    if want then br b (aopZ P S n M l Y Sg o i (σ.put (some d) .tt) K) (K i ((σ.put (some d) .ff).put o.dst (.tup [])))
    else br b (K i ((σ.put (some d) .tt).put o.dst (.tup []))) (aopZ P S n M l Y Sg o i (σ.put (some d) .ff) K)
   | .tup [] => K i (σ.put o.dst (.tup []))
   | _ => False
  | _ => False
def aopsZ (dsts:List (Option Nat)):List Oper → Option Nat → St → (Option Nat → St → Prop) → Prop
 | [],i,σ,K => K i σ
 | o :: r,i,σ,K => gopZ P S n M l Y Sg dsts o i σ fun i σ => aopsZ dsts r i σ K
def seqZ (ops:Array Oper):List Nat → Option Nat → St → (Option Nat → St → Prop) → Prop
 | [],i,σ,K => K i σ
 | q :: r,i,σ,K => match ops[q]? with
  | some o => gopZ P S n M l Y Sg (dstsOf ops.toList) o i σ fun i σ => seqZ ops r i σ K
  | none => False
def needZ (w:Ways) (o:Oper):Bool:=needSeq w o || match o.op with
 | .call c => (match c.callee with
  | .value (.func f) => isSeg w f
  | .value _ => true
  | _ => false)
 | _ => false
def topoZ (w:Ways) (ops:Array Oper):Nat → List Nat → List Nat → List Nat
 | 0,_,done => done.reverse
 | k + 1,rem,done => match (rem.find? (fun i => match ops[i]? with
   | some o => !needZ w o && o.after.toList.all fun e => !Region.binds .any e || done.contains e.on
   | none => false)).or (rem.find? (fun i => match ops[i]? with
   | some o => o.after.toList.all fun e => !Region.binds .any e || done.contains e.on
   | none => false)) with
  | some i => topoZ w ops k (rem.filter fun j => !(j == i)) (i :: done)
  | none => done.reverse
def cutZ (w:Ways) (ops:Array Oper):List Nat → List Nat × List Nat
 | [] => ([],[])
 | i :: r => if (match ops[i]? with
   | some o => needZ w o
   | none => false) then ([],i :: r) else (i :: (cutZ w ops r).1,(cutZ w ops r).2)
def drawZ (ops:Array Oper) (ord:List Nat) (i:Option Nat) (σ:St) (K:Option Nat → St → Prop):Prop :=
 forceL (cutZ S.frs ops ord).1 fun pre => forceL (cutZ S.frs ops ord).2 fun fin =>
  if finalOK ops pre fin then dops P S (n + M) ops pre [] σ fun σ => seqZ P S n M l Y Sg ops fin i σ K else False
def loopZ (keep D:List Nat) (p:Pat) (f:Option Nat → St → (Ex → Option Nat → St → Prop) → Prop) (i:Option Nat) (σ:St) (K:Ex → Option Nat → St → Prop):Prop :=
 match i with
 | none => False
 | some i0 => if patIn D p then ∃ I:Nat → Nat → List AV → Prop,toHeadC P (n + M) keep D p true σ σ (fun vs => ∃ m,I m i0 vs) ∧
   ∀ m i:Nat,headKC P (n + M) keep D p σ fun vs τ => I m i vs → f (some i) τ fun e j σ1 => match e with
    | .normal => match j with
     | some j => (σ1.sl.length = σ.sl.length ∧ sameL σ σ1 (keep.filter fun t => !D.contains t)) ∧ toHeadC P (n + M) keep D p false σ σ1 fun vs => ∃ k,k < m ∧ I k j vs
     | none => False
    | e => K e j σ1
  else False
def awpZ (ctl:Ctl):Code → Option Nat → St → (Ex → Option Nat → St → Prop) → Prop
 | .skip,i,σ,K => K .normal i σ
 | .region id ops true,i,σ,K => freezeK (n + M) (ctl.fzAt id) σ fun σ => forceL (topoZ S.frs ops ops.size (List.range ops.size) []) fun ord => if P.follows .mixedOrders && ((allocsOf S.frs ops).all (fun d => freshB (n + M) d σ) && ordOK ops ord) then drawZ P S n M l Y Sg ops ord i σ fun i σ => cleanK ctl.keep σ (K .normal i) else False
 | .region id ops false,i,σ,K => freezeK (n + M) (ctl.fzAt id) σ fun σ => aopsZ P S n M l Y Sg (dstsOf ops.toList) ops.toList i σ fun i σ => cleanK ctl.keep σ (K .normal i)
 | .seq a b,i,σ,K => awpZ ctl a i σ fun e i σ => match e with
   | .normal => awpZ ctl b i σ K
   | e => K e i σ
 | .cond c a b,i,σ,K => match ev σ c with
  | .tt => awpZ ctl a i σ K
  | .ff => awpZ ctl b i σ K
  | .bool x => br x (awpZ ctl a i σ K) (awpZ ctl b i σ K)
  | _ => False
 | .block id b,i,σ,K => awpZ ctl b i σ fun e i σ => match e with
  | .exit j => if j = id then K .normal i σ else K (.exit j) i σ
  | e => K e i σ
 | .loop b,i,σ,K => match patOf ctl.loops (firstId b) with
  | some p => loopZ P n M ctl.keep (ctl.dsts b) (p.res (n + M) σ) (awpZ ctl b) i σ K
  | none => False
 | .exit id,i,σ,K => K (.exit id) i σ
 | .ret,i,σ,K => K .ret i σ
 | _,_,_,_ => False
def initZ (fn:Func) (args:List AV) (boxes:List Bx):St :=
 ⟨args ++ List.replicate (fn.ntmps - args.length) .undef,boxes.map some ++ List.replicate M none ++ List.replicate M none⟩
def endsZ (len:Nat):Option Nat → Prop
 | some i => i = len
 | none => True
def awpSq (ctl:Ctl) (fn:Func) (args:List AV) (boxes:List Bx) (len:Nat):Prop :=
 match fn.body with
 | some c => if allLive (initZ M fn (.yld l :: args) boxes) then awpZ P S n M l Y Sg ctl c (some 0) (initZ M fn (.yld l :: args) boxes) (fun e i σ => match e with
  | .exit _ => False
  | _ => if allLive σ && resOK n M σ then endsZ len i else False) else False
 | none => False
def retZ (fn:Func) (O:List (List AV)) (len:Nat) (i:Option Nat) (σ:St):Prop :=
 match fn.results.toList.mapM (resA P σ),(List.range n).mapM σ.box with
 | some [v],some O' => match v.isB with
  | some b => if allLive σ && resOK n M σ && ((O'.all fun cs => (AV.refsL cs).all fun b => decide (b < n)) && (List.range n).all (fun b => match σ.bx.getD b none with | some x => !x.arr | none => true)) then O' = O ∧ endsZ len i ∧ b = i.isSome else False
  | none => False
 | _,_ => False
def awpSg (ctl:Ctl) (fn:Func) (args:List AV) (boxes:List Bx) (len:Nat):Prop :=
 match fn.body with
 | some c => if allLive (initZ M fn args boxes) then awpZ P S n M l Y Sg ctl c (some 0) (initZ M fn args boxes) (fun e i σ => match e with
  | .exit _ => False
  | _ => retZ P n M fn (boxes.map (·.cs)) len i σ) else False
 | none => False
end
end Go.Proofs.YtdeeekgohhkdbaaGreatDoor
namespace Go.Proofs.YtdeeekgohhkdbaaGreatDoor
open Go.RowKit

def baseL (n M:Nat) (σ:St) (μ:Lay):Lay:=fun b => if b < n then norm0 σ μ b else if b < n + M then norm0 σ μ (b + M) else norm0 σ μ b
theorem norm0_live {σ:St} {μ:Lay} {b:Nat} (h:live σ.bx b = true):norm0 σ μ b = μ b:=by unfold norm0; rw [if_pos h]
theorem norm0_some {σ:St} {μ:Lay} {b:Nat} (h:(norm0 σ μ b).2 ≠ 0):live σ.bx b = true:=by
 unfold norm0 at h
 split at h
 ·assumption
 ·exact absurd rfl h
theorem resOK_spec {n M:Nat} {σ:St} (h:resOK n M σ = true):(∀ b,n ≤ b → b < n + M → live σ.bx b = false) ∧ (∀ b,b < n → live σ.bx b = true) ∧ σ.bx.length = n + M + M:=by
 simp only [resOK,Bool.and_eq_true,List.all_eq_true,List.mem_range,Bool.not_eq_true',decide_eq_true_eq] at h
 refine ⟨fun b h1 h2 => ?_,h.2.1,h.2.2⟩
 have:=h.1 (b - n) (by omega)
 rwa [show n + (b - n) = b by omega] at this
theorem baseL_live {n M:Nat} {σ:St} {μ:Lay} (hr:resOK n M σ = true) {b:Nat} (h:live σ.bx b = true):baseL n M σ μ b = μ b:=by
 obtain ⟨r1,_,_⟩:=resOK_spec hr
 unfold baseL
 split
 ·exact norm0_live h
 ·split
  ·rename_i h1 h2
   rw [r1 b (by omega) h2] at h; cases h
  ·exact norm0_live h
theorem blocks_base {n M:Nat} {σ:St} {μ:Lay} (hr:resOK n M σ = true) {k:Nat}:blocks (baseL n M σ μ) (n + M) k ↔ ∃ b x,σ.bx.getD b none = some x ∧ (μ b).2 ≠ 0 ∧ k = (μ b).1:=by
 obtain ⟨r1,_,r3⟩:=resOK_spec hr
 constructor
 ·rintro ⟨b,hb,hk,rfl⟩
  unfold baseL at hk ⊢
  split at hk
  ·rename_i h1
   have hl:=norm0_some hk
   rw [norm0_live hl] at hk
   rw [if_pos h1,norm0_live hl]
   obtain ⟨x,hx⟩:=live_some hl
   exact ⟨b,x,hx,hk,rfl⟩
  ·rename_i h1
   have hl:=norm0_some hk
   rw [norm0_live hl] at hk
   rw [if_neg h1,if_pos hb,norm0_live hl]
   obtain ⟨x,hx⟩:=live_some hl
   exact ⟨b + M,x,hx,hk,rfl⟩
 ·rintro ⟨b,x,hx,hk,rfl⟩
  have hl:=live_of hx
  have hlt:=live_lt hl
  by_cases h1:b < n
  ·refine ⟨b,by omega,?_,?_⟩ <;> rw [baseL_live hr hl]
   exact hk
  ·by_cases h2:b < n + M
   ·rw [r1 b (by omega) h2] at hl; cases hl
   ·have e:baseL n M σ μ (b - M) = μ b:=by
     unfold baseL
     rw [if_neg (by omega),if_pos (by omega),show b - M + M = b by omega,norm0_live hl]
    refine ⟨b - M,by omega,?_,?_⟩ <;> rw [e]
    exact hk

section
variable {n M:Nat} {μ0:Lay} {ρ0:RO} {W:World} {ρ:RO} {μ:Lay} {σ:St} {a:Act} {w:World}
theorem Sat.blkLt (hs:Sat [] (n + M) μ0 ρ0 W ρ μ σ a w) {b:Nat} {x:Bx} (hx:σ.bx.getD b none = some x) (hk:(μ b).2 ≠ 0):(μ b).1 < w.heap.size:=by
 rcases (hs.box b x hx).blk with h0 | ⟨o,h,_⟩
 ·exact absurd h0 hk
 ·exact (Array.getElem?_eq_some_iff.1 h).1
theorem Sat.held (hs:Sat [] (n + M) μ0 ρ0 W ρ μ σ a w) (hl:allLive σ = true) (hr:resOK n M σ = true) {ρ':RO} {W':World} (hle:ρ.le ρ') (hro:∀ k o,ρ' k = some o → W'.heap[k]? = some o)
  (hsep:∀ b x,σ.bx.getD b none = some x → (μ b).2 ≠ 0 → ρ' (μ b).1 = none) (hbox:∀ b x,σ.bx.getD b none = some x → BoxAt ρ' (lev (baseL n M σ μ) x) (baseL n M σ μ) W' b x.cs) :
  Sat [] (n + M) (baseL n M σ μ) ρ' W' ρ' (baseL n M σ μ) σ a W':=by
 simp only [allLive,Bool.and_eq_true,List.all_eq_true] at hl
 obtain ⟨r1,r2,r3⟩:=resOK_spec hr
 refine { gl:=(hs.gl.mono hs.le).mono hle,dfe:=hs.dfe,defs:=.nil _ _ _,sz:=hs.sz,sl:=fun t => ((hs.sl t).lay fun b hb => baseL_live hr (hl.1 b (mem_refsL hb))).mono hle,box:=hbox,inj:=fun b b' cs cs' h h' hne hk hk' => ?_,sep:=fun b cs h hk => ?_,own:=fun b cs h hk hn => ?_,inc:=fun _ _ => rfl,ro:=hro,le:=RO.le_refl _,new:=fun k o h h0 => (by rw [h0] at h; cases h),frame:=fun _ _ _ => rfl,size:=Nat.le_refl _,os:=rfl,tape:=rfl,output:=rfl }
 ·rw [baseL_live hr (live_box h)] at hk ⊢
  rw [baseL_live hr (live_box h')] at hk' ⊢
  exact hs.inj b b' cs cs' h h' hne hk hk'
 ·rw [baseL_live hr (live_box h)] at hk ⊢
  obtain ⟨x,hx,-⟩:=box_some h
  exact hsep b x hx hk
 ·rw [baseL_live hr (live_box h)] at hk ⊢
  obtain ⟨x,hx,-⟩:=box_some h
  exact .inr ((blocks_base hr).2 ⟨b,x,hx,hk,rfl⟩)
theorem Sat.boxHeld (hs:Sat [] (n + M) μ0 ρ0 W ρ μ σ a w) (hl:allLive σ = true) (hr:resOK n M σ = true) {ρ':RO} {W':World} (hle:ρ.le ρ') {b:Nat} {x:Bx} (hx:σ.bx.getD b none = some x)
  (hsame:(μ b).2 ≠ 0 → W'.heap[(μ b).1]? = w.heap[(μ b).1]?):BoxAt ρ' (lev (baseL n M σ μ) x) (baseL n M σ μ) W' b x.cs:=by
 simp only [allLive,Bool.and_eq_true,List.all_eq_true] at hl
 have hb:=baseL_live (μ:=μ) hr (live_of hx)
 obtain ⟨h1,h2⟩:=hs.box b x hx
 refine ⟨by rw [hb]; exact h1,?_⟩
 rw [hb]
 by_cases h0:(μ b).2 = 0
 ·exact .inl h0
 ·rcases h2 with h2 | ⟨o,h3,h5⟩
  ·exact absurd h2 h0
  ·refine .inr ⟨o,by rw [hsame h0]; exact h3,h5.imp rfl (fun j cv h6 => ?_) (hl:=by rw [lev_isSome,lev_isSome])⟩
   unfold lev at h6 ⊢
   split
   ·rename_i ha; rw [if_pos ha] at h6; exact h6.mono hle
   ·rename_i ha
    rw [if_neg ha] at h6
    refine (h6.lay fun b' hb' => baseL_live hr ?_).mono hle
    have hm:some x ∈ σ.bx:=by
     simp only [List.getD] at hx
     cases hg:σ.bx[b]? with
     | none => rw [hg] at hx; cases hx
     | some y => rw [hg] at hx; simp only [Option.getD_some] at hx; subst hx; exact List.mem_of_getElem? hg
    have:=hl.2 _ hm
    simp only [List.all_eq_true] at this
    exact this b' (by unfold Bx.refs; rw [if_neg ha]; exact mem_refsL hb')
end
def TB (N:Nat) (μ0:Lay) (Tf:Nat → Prop) (k:Nat):Prop:=blocks μ0 N k ∨ Tf k
structure Base (n M:Nat) (μS:Lay) (ρS:RO) (wS:World) (Tf:Nat → Prop) (μ0:Lay) (ρ0:RO) (W:World):Prop where
 lay:∀ c,c < n → μ0 c = μS c
 res:∀ c,n ≤ c → c < n + M → (μ0 c).2 ≠ 0 → wS.heap.size ≤ (μ0 c).1
 le:ρS.le ρ0
 new:∀ k o,ρ0 k = some o → ρS k = none → wS.heap.size ≤ k
 frn:∀ k,Tf k → k < wS.heap.size ∧ ρ0 k = none ∧ ¬ blocks μ0 (n + M) k ∧ W.heap[k]? = wS.heap[k]?
 size:wS.heap.size ≤ W.heap.size
 os:W.os = wS.os
 tape:W.tape = wS.tape
 output:W.output = wS.output
section
variable {n M:Nat} {μS:Lay} {ρS:RO} {wS:World} {Tf:Nat → Prop} {μ0:Lay} {ρ0:RO} {W:World} {ρ:RO} {μ:Lay} {σ:St} {a:Act} {w:World}
theorem Base.next (hb:Base n M μS ρS wS Tf μ0 ρ0 W) (hs:Sat [] (n + M) μ0 ρ0 W ρ μ σ a w) (hr:resOK n M σ = true) :
  Base n M μS ρS wS Tf (baseL n M σ μ) ρ w ∧ ItStep ρ0 (TB (n + M) μ0 Tf) W ρ (TB (n + M) (baseL n M σ μ) Tf) w:=by
 obtain ⟨r1,r2,r3⟩:=resOK_spec hr
 have hcame:∀ c,c < n → μ c = μS c:=fun c hc => (hs.inc c (by omega)).trans (hb.lay c hc)
 have hown:∀ b x,σ.bx.getD b none = some x → (μ b).2 ≠ 0 → n ≤ b → wS.heap.size ≤ (μ b).1:=by
  intro b x hx hk hn
  have hlt:¬ b < n + M:=fun h => by have:=live_of hx; rw [r1 b hn h] at this; cases this
  rcases hs.own b _ (box_bx hx) hk (by omega) with h | ⟨c,hc,h0,he⟩
  ·have:=hb.size; omega
  ·by_cases hcn:c < n
   ·exfalso
    obtain ⟨y,hy⟩:=live_some (r2 c hcn)
    have hi:=hs.inc c (by omega)
    exact hs.inj b c _ _ (box_bx hx) (box_bx hy) (by omega) hk (by rw [hi]; exact h0) (by rw [hi]; exact he)
   ·rw [he]; exact hb.res c (by omega) hc h0
 have hnew:∀ k o,ρ k = some o → ρ0 k = none → wS.heap.size ≤ k:=by
  intro k o h h0
  rcases hs.new k o h h0 with h1 | ⟨c,hc,h1,he⟩
  ·have:=hb.size; omega
  ·by_cases hcn:c < n
   ·exfalso
    obtain ⟨y,hy⟩:=live_some (r2 c hcn)
    have hi:=hs.inc c (by omega)
    have:=hs.sep c _ (box_bx hy) (by rw [hi]; exact h1)
    rw [hi,← he,h] at this; cases this
   ·rw [he]; exact hb.res c (by omega) hc h1
 have hfrn:∀ k,Tf k → k < wS.heap.size ∧ ρ k = none ∧ ¬ blocks (baseL n M σ μ) (n + M) k ∧ w.heap[k]? = wS.heap[k]?:=by
  intro k hk
  obtain ⟨f1,f2,f3,f4⟩:=hb.frn k hk
  refine ⟨f1,?_,?_,?_⟩
  ·cases h:ρ k with
   | none => rfl
   | some o => have:=hnew k o h f2; omega
  ·intro hbk
   obtain ⟨b,x,hx,h0,rfl⟩:=(blocks_base hr).1 hbk
   by_cases hn:n ≤ b
   ·have:=hown b x hx h0 hn; omega
   ·have hi:=hs.inc b (by omega)
    exact f3 ⟨b,by omega,by rw [← hi]; exact h0,by rw [hi]⟩
  ·rw [hs.frame k (by have:=hb.size; omega) fun b hb' h0 he => f3 ⟨b,hb',h0,he⟩]
   exact f4
 refine ⟨⟨fun c hc => ?_,fun c h1 h2 h3 => ?_,hb.le.trans hs.le,fun k o h h0 => ?_,hfrn,Nat.le_trans hb.size hs.size,hs.os.trans hb.os,hs.tape.trans hb.tape,hs.output.trans hb.output⟩,
  ⟨hs.size,fun k hk hT => ?_,hs.le,hs.ro,fun k o h h0 => ?_,fun k hk => ?_,fun k hk => ?_,fun k hk => ?_,hs.os,hs.tape,hs.output⟩⟩
 ·rw [baseL_live hr (r2 c hc)]; exact hcame c hc
 ·unfold baseL at h3 ⊢
  rw [if_neg (by omega),if_pos h2] at h3 ⊢
  have hlv:=norm0_some h3
  rw [norm0_live hlv] at h3 ⊢
  obtain ⟨x,hx⟩:=live_some hlv
  exact hown _ x hx h3 (by omega)
 ·cases h1:ρ0 k with
  | none => exact hnew k o h h1
  | some o' => exact hb.new k o' h1 h0
 ·exact hs.frame k hk fun b hb' h0 he => hT (.inl ⟨b,hb',h0,he⟩)
 ·rcases hs.new k o h h0 with h1 | h1
  ·exact .inr h1
  ·exact .inl (.inl h1)
 ·rcases hk with hk | hk
  ·obtain ⟨b,x,hx,h0,rfl⟩:=(blocks_base hr).1 hk
   by_cases hn:n + M ≤ b
   ·rcases hs.own b _ (box_bx hx) h0 hn with h | h
    ·exact .inr h
    ·exact .inl (.inl h)
   ·have hi:=hs.inc b (by omega)
    exact .inl (.inl ⟨b,by omega,by rw [← hi]; exact h0,by rw [hi]⟩)
  ·exact .inl (.inr hk)
 ·rcases hk with hk | hk
  ·obtain ⟨b,x,hx,h0,rfl⟩:=(blocks_base hr).1 hk
   exact hs.blkLt hx h0
  ·have:=(hfrn k hk).1; have:=hb.size; have:=hs.size; omega
 ·rcases hk with hk | hk
  ·obtain ⟨b,x,hx,h0,rfl⟩:=(blocks_base hr).1 hk
   exact hs.sep b _ (box_bx hx) h0
  ·exact (hfrn k hk).2.1
end
end Go.Proofs.YtdeeekgohhkdbaaGreatDoor

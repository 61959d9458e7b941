/- Regions whose order is drawn, of operations that leave the world as it is. Functions that loops go over: their own text followed, from one yield to the next. -/
import Derived.Test.YtblebiafhhhflaaGreatG1
namespace Go.Proofs.YtblebiafhhhflaaGreat
open Go.RowKit
section
variable {P:Program} {frs:Ways} {il:InlF} {ds:List Deferred} {n:Nat} {μ0:Lay} {ρ0:RO} {w0:World} {ρ:RO} {μ:Lay} {σ:St} {a:Act} {w:World}
variable {ro:Option Nat}
def pureOp:Op → Bool
 | .load .. | .indexAddr .. | .move .. | .build .. | .unOp .. | .fieldAddr .. => true
 | .binOp op .. => match op with
  | .add | .sub | .mul => true
  | _ => false
 | _ => false
def pureAt (ops:Array Oper) (i:Nat) (o:Oper):Bool:=!isGuard ops i && o.guard.isNone && pureOp o.op
def AtP (ds:List Deferred) (n:Nat) (μ0:Lay) (ρ0:RO) (w0:World) (ρ:RO) (K:St → Prop) (a:Act) (w:World):Prop:=∃ μ σ,Sat ds n μ0 ρ0 w0 ρ μ σ a w ∧ K σ
theorem aopP_spec {o:Oper} {K:St → Prop} {Q:Exit → Act → World → Prop} (hp:pureOp o.op = true) (hs:Sat ds n μ0 ρ0 w0 ρ μ σ a w) (h:aop P (SpecsOf P frs il) n o σ K):o.wpIn (Fr ro) 0 P a w (AtP ds n μ0 ρ0 w0 ρ K) Q:=by
 have pop:∀ op,op = o.op → (match popA P (ev σ) op with | some v => K (σ.put o.dst v) | none => False) → o.wpIn (Fr ro) 0 P a w (AtP ds n μ0 ρ0 w0 ρ K) Q:=by
  intro op hop h
  split at h
  ·rename_i v hv
   rw [hop] at hv
   obtain ⟨cv,h1,h2⟩:=popA_spec (fun x => hs.eval x) o hv w
   exact wp_val h1 ⟨μ,_,hs.put h2,h⟩
  ·exact h.elim
 obtain ⟨dst,op,type,pos,after,guard⟩:=o
 unfold aop at h
 cases op with
 | load t x =>
  obtain ⟨v,cv,h1,h2,h3⟩:=loadA_spec hs (hs.eval x) h
  exact wp_val (lift_val h1) ⟨μ,_,hs.put h2,h3⟩
 | indexAddr t x j =>
  obtain ⟨v,cv,h1,h2,h3⟩:=indexAddrA_spec (hs.eval x) (hs.eval j) h w
  exact wp_val (lift_val h1) ⟨μ,_,hs.put h2,h3⟩
 | move x => exact pop _ rfl h
 | fieldAddr _ _ _ => exact pop _ rfl h
 | build t ps => exact pop _ rfl h
 | unOp op t x => exact pop _ rfl h
 | binOp op t x y yt =>
  cases op with
  | add =>
   simp only at h
   split at h
   ·rename_i e es hn
    obtain ⟨b,h1,h2⟩:=nilCmp_spec (p:=x) (q:=y) hn (hs.eval x) (hs.eval y) w
    exact wp_val (lift_val h2) ⟨μ,_,hs.put (.bool _ b),h b h1⟩
   ·exact pop _ rfl h
  | sub =>
   simp only at h
   split at h
   ·rename_i e es hn
    obtain ⟨b,h1,h2⟩:=nilCmp_spec (p:=x) (q:=y) hn (hs.eval x) (hs.eval y) w
    exact wp_val (lift_val h2) ⟨μ,_,hs.put (.bool _ b),h b h1⟩
   ·exact pop _ rfl h
  | mul =>
   simp only at h
   split at h
   ·rename_i e es hn
    obtain ⟨b,h1,h2⟩:=nilCmp_spec (p:=x) (q:=y) hn (hs.eval x) (hs.eval y) w
    exact wp_val (lift_val h2) ⟨μ,_,hs.put (.bool _ b),h b h1⟩
   ·exact pop _ rfl h
  | _ => cases hp
 | _ => cases hp
theorem gopP_spec {ops:Array Oper} {i:Nat} {o:Oper} {K:St → Prop} {Q:Exit → Act → World → Prop} {N:Act → World → Prop} (hi:ops[i]? = some o) (hp:pureAt ops i o = true) (hs:Sat ds n μ0 ρ0 w0 ρ μ σ a w)
  (h:gop P (SpecsOf P frs il) n (dstsOf ops.toList) (isGuard ops i) o σ K) (hN:∀ a w,AtP ds n μ0 ρ0 w0 ρ K a w → N a w):wpOpIn (Fr ro) 0 P ops Q i N a w:=by
 simp only [pureAt,Bool.and_eq_true,Bool.not_eq_true',Option.isNone_iff_eq_none] at hp
 obtain ⟨⟨h1,h2⟩,h3⟩:=hp
 unfold wpOpIn
 simp only [hi]
 unfold gop at h
 rw [h1] at h
 simp only [h2,split] at h
 rw [if_pos (by simp [Region.wanted,h2])]
 exact Oper.wpIn_mono hN (aopP_spec h3 hs h)
theorem any_orderP {ops:Array Oper} {Q:Exit → Act → World → Prop} {σk:St} {L:Nat} {fin:List Nat}
  (hpure:∀ i o,ops[i]? = some o → i ∉ fin → pureAt ops i o = true) (hfin:∀ (listed:Array Bool) (μ:Lay) (a:Act) (w:World),listed.size = ops.size → Closed ops listed → (∀ i,i < ops.size → (listed.getD i true = false ↔ i ∈ fin)) → Sat ds n μ0 ρ0 w0 ρ μ σk a w → wpAnyIn (Fr ro) 0 P .any ops Q fin.length listed a w)
  (hlast:∀ (listed:Array Bool) (j:Nat),listed.size = ops.size → Closed ops listed → j ∈ fin → j ∈ Region.ready .any ops listed → ∀ i,i < ops.size → listed.getD i true = false → i ∈ fin)
  (hwait:∀ (i:Nat) (o:Oper),i ∉ fin → ops[i]? = some o → ∀ e ∈ o.after.toList,Region.binds .any e = true → e.on ∉ fin) :
  ∀ (k:Nat) (t:List Stp) (listed:Array Bool) (μ:Lay) (σ:St) (a:Act) (w:World),t.length = k → σ.sl.length = L → Sat ds n μ0 ρ0 w0 ρ μ σ a w → TrP P (SpecsOf P frs il) n ops σ t σk →
   (∀ s ∈ t,WF ops L s) → t.Pairwise (fun a b => a.p.fits n ops b.p = true) → (∀ s ∈ t,∀ d ∈ s.p.F,FreshP n d σ) → (t.map (·.p.i)).Nodup → listed.size = ops.size →
   (∀ i,i < ops.size → (listed.getD i true = false ↔ i ∈ t.map (·.p.i) ∨ i ∈ fin)) → (∀ i ∈ t.map (·.p.i),i ∉ fin) → Closed ops listed → wpAnyIn (Fr ro) 0 P .any ops Q (k + fin.length) listed a w:=by
 intro k
 induction k with
 | zero =>
  intro t listed μ σ a w hk hL hs ht hwf hfit hfr hlt hls hl hdj hcl
  have:t = []:=List.length_eq_zero_iff.1 hk
  subst this
  have hσ:σ = σk:=ht
  subst hσ
  rw [Nat.zero_add]
  exact hfin listed μ a w hls hcl (fun i hi => by simpa using hl i hi) hs
 | succ k ih =>
  intro t listed μ σ a w hk hL hs ht hwf hfit hfr hlt hls hl hdj hcl
  have hsz:∀ s ∈ t,s.p.i < ops.size:=fun s hm => (Array.getElem?_eq_some_iff.1 (hwf s hm).op).1
  rw [Nat.succ_add]
  refine ⟨fun hnil => ?_,fun j hj => ?_⟩
  ·exfalso
   cases t with
   | nil => simp at hk
   | cons s r =>
    have:s.p.i ∈ Region.ready .any ops listed:=by
     refine mem_ready.2 ⟨(hl _ (hsz s (by simp))).2 (.inl (by simp)),s.p.o,(hwf s (by simp)).op,fun e he hbd => ?_⟩
     obtain ⟨h1,h2⟩:=(hwf s (by simp)).after e he
     cases hg:listed.getD e.on false with
     | true => rfl
     | false =>
      have h3:listed.getD e.on true = false:=by
       simp only [Array.getD,dif_pos (by omega:e.on < listed.size)] at hg ⊢
       exact hg
      have h4:=((hl e.on h1).1 h3).resolve_right (hwait _ _ (hdj _ (by simp)) (hwf s (by simp)).op e (by simpa using he) hbd)
      rw [List.map_cons] at h4
      rcases List.mem_cons.1 h4 with h5 | h5
      ·exact absurd h5 h2
      ·obtain ⟨q,hq,hqi⟩:=List.mem_map.1 h5
       have hf:=(List.pairwise_cons.1 hfit).1 q hq
       simp only [Fp.fits,Bool.and_eq_true] at hf
       have:=List.all_eq_true.1 hf.1.1 e (by simpa using he)
       simp [hbd,hqi] at this
    rw [hnil] at this
    cases this
  ·obtain ⟨h1,o,ho,hall⟩:=mem_ready.1 hj
   have hjlt:=(Array.getElem?_eq_some_iff.1 ho).1
   have hjt:j ∈ t.map (·.p.i):=by
    rcases (hl j hjlt).1 h1 with h | h
    ·exact h
    ·exfalso
     cases t with
     | nil => simp at hk
     | cons s r =>
      have h2:=(hl s.p.i (hsz s (by simp))).2 (.inl (by simp))
      exact hdj s.p.i (by simp) (hlast listed j hls hcl h hj s.p.i (hsz s (by simp)) h2)
   obtain ⟨s,hst,hsi⟩:=List.mem_map.1 hjt
   obtain ⟨pre,post,rfl⟩:=List.append_of_mem hst
   have hso:s.p.o = o:=by
    have:=(hwf s hst).op
    rw [hsi,ho] at this
    exact (Option.some.inj this).symm
   have hpw:=List.pairwise_append.1 hfit
   have hind:∀ q ∈ pre,WF ops L q ∧ Indep ops q s ∧ ∀ d ∈ q.p.F,n + d ∉ s.p.rf:=by
    intro q hq
    have hf:=hpw.2.2 q hq s (by simp)
    simp only [Fp.fits,Bool.and_eq_true,Bool.or_eq_true] at hf
    refine ⟨hwf q (List.mem_append_left _ hq),?_⟩
    rcases hf.2 with h2 | h2
    ·exfalso
     obtain ⟨e,he,hb⟩:=List.any_eq_true.1 h2
     simp only [Bool.and_eq_true,beq_iff_eq] at hb
     have h3:=hall e (by rw [← hso]; simpa using he) hb.1
     rw [hb.2] at h3
     have h4:=(hl q.p.i (hsz q (List.mem_append_left _ hq))).2 (.inl (List.mem_map.2 ⟨q,List.mem_append_left _ hq,rfl⟩))
     have h5:=hsz q (List.mem_append_left _ hq)
     simp only [Array.getD,dif_pos (by omega:q.p.i < listed.size)] at h3 h4
     rw [h4] at h3; cases h3
    ·obtain ⟨⟨⟨⟨i1,i2⟩,i3⟩,i4⟩,i5⟩:=h2
     refine ⟨⟨i1,apartL_spec i2,apartL_spec i3,apartL_spec i4⟩,fun d hd => ?_⟩
     exact apartL_spec i5 (n + d) (List.mem_map.2 ⟨d,hd,rfl⟩)
   have hpost:∀ q ∈ post,∀ d ∈ q.p.F,n + d ∉ s.p.rf:=by
    intro q hq d hd
    have hf:=(List.pairwise_cons.1 hpw.2.1).1 q hq
    simp only [Fp.fits,Bool.and_eq_true] at hf
    exact apartL_spec hf.1.2 (n + d) (List.mem_map.2 ⟨d,hd,rfl⟩)
   have hb:=TrP.bubble (hwf s hst) pre σ (fun q hq => ⟨(hind q hq).1,(hind q hq).2.1⟩) ht
   have hg:=hb.1 σ ⟨fun _ _ => rfl,fun _ _ => rfl,rfl,rfl⟩ (hfr s hst) (fun τ => τ = σ.stp s) rfl
   rw [hso,hsi] at hg
   refine gopP_spec ho (hpure j o ho (hdj j hjt)) hs hg ?_
   rintro a' w' ⟨μ',σ',hs',rfl⟩
   have hsub:(pre ++ post).Sublist (pre ++ s :: post):=List.Sublist.append_left (List.sublist_cons_self s post) pre
   refine ih (pre ++ post) _ μ' _ a' w' ?_ ?_ hs' hb.2 (fun q hq => hwf q (hsub.subset hq)) (hfit.sublist hsub) ?_ (hlt.sublist (hsub.map _)) (by simp [hls]) ?_ (fun i hi => hdj i ((hsub.map (·.p.i)).subset hi)) ?_
   ·simp at hk ⊢; omega
   ·rw [(stp_len σ s).1,hL]
   ·intro q hq d hd
    refine (hfr q (hsub.subset hq) d hd).stp (by rw [hL]; exact hwf s hst) ?_
    rcases List.mem_append.1 hq with hq | hq
    ·exact (hind q hq).2.2 d hd
    ·exact hpost q hq d hd
   ·intro i hi
    have hne:∀ q ∈ pre ++ post,q.p.i ≠ s.p.i:=by
     intro q hq he
     rw [List.map_append,List.map_cons] at hlt
     have h5:=List.pairwise_append.1 hlt
     rcases List.mem_append.1 hq with hq | hq
     ·exact h5.2.2 q.p.i (List.mem_map.2 ⟨q,hq,rfl⟩) s.p.i (by simp) he
     ·exact (List.pairwise_cons.1 h5.2.1).1 q.p.i (List.mem_map.2 ⟨q,hq,rfl⟩) he.symm
    by_cases hij:i = j
    ·subst hij
     have:(listed.setIfInBounds i true).getD i true = true:=by
      simp [Array.getD,hls,hi]
     rw [this]
     refine ⟨fun h => absurd h (by decide),fun h => ?_⟩
     rcases h with h | h
     ·obtain ⟨q,hq,hqi⟩:=List.mem_map.1 h
      exact absurd (hqi.trans hsi.symm) (hne q hq)
     ·exact absurd h (hdj _ hjt)
    ·rw [getD_set_ne true (Ne.symm hij),hl i hi]
     simp only [List.map_append,List.map_cons,List.mem_append,List.mem_cons]
     constructor
     ·rintro ((h | h | h) | h)
      ·exact .inl (.inl h)
      ·exact absurd (h.trans hsi) hij
      ·exact .inl (.inr h)
      ·exact .inr h
     ·rintro ((h | h) | h)
      ·exact .inl (.inl h)
      ·exact .inl (.inr (.inr h))
      ·exact .inr h
   ·intro i o' ho' hi e he hbd
    have mono:∀ x,listed.getD x false = true → (listed.setIfInBounds j true).getD x false = true:=fun x hx => by
     by_cases hxj:j = x
     ·subst hxj
      simp [Array.getD,hls,hjlt]
     ·rw [getD_set_ne false hxj]; exact hx
    by_cases hij:i = j
    ·subst hij
     rw [ho] at ho'; cases ho'
     exact mono _ (hall e (by simpa using he) hbd)
    ·rw [getD_set_ne true (Ne.symm hij)] at hi
     exact mono _ (hcl i o' ho' hi e he hbd)

end
end Go.Proofs.YtblebiafhhhflaaGreat
namespace Go.Proofs.YtblebiafhhhflaaGreat
open Go.RowKit

def AV.simple:AV → Bool
 | .undef | .tt | .ff | .bool _ | .lit .. | .int .. | .str _ => true
 | _ => false
def simpleBx (σ:St):Bool:=σ.bx.all fun
 | some x => !x.arr && x.cs.all AV.simple
 | none => true
def simpleD (d:Option Nat) (σ:St):Bool:=match d with
 | some d => (σ.sl.getD d .undef).simple
 | none => true
def dropOwn (n:Nat) (σ:St):St:={ σ with bx:=mapI σ.bx fun b x => if b < n then x else none }
def sameL (σ0 σ1:St):List Nat → Prop
 | [] => True
 | t :: r => σ1.sl.getD t .undef = σ0.sl.getD t .undef ∧ sameL σ0 σ1 r
section
variable (P:Program) (S:Specs) (n l:Nat) (Y:Nat → List AV → Prop)
def aopY (o:Oper) (i:Option Nat) (σ:St) (K:Option Nat → St → Prop):Prop :=
 match o.op with
 | .load t x => loadA P t σ (ev σ x) fun v => K i (σ.put o.dst v)
 | .store t a x => storeA P t σ (ev σ a) (ev σ x) fun σ => K i (σ.put o.dst (.tup []))
 | .indexAddr t x j => indexAddrA P S.frs t (ev σ x) (ev σ j) fun v => K i (σ.put o.dst v)
 | .slice t x lo hi mx => sliceA P t σ (ev σ x) (lo.map (ev σ)) (hi.map (ev σ)) (mx.map (ev σ)) fun v => K i (σ.put o.dst v)
 | .alloc t => match o.dst,zeroA P t with
  | some d,some z => mkBox n d ⟨t,false,z.cells⟩ (.ref (n + d) 0) σ (K i)
  | _,_ => False
 | .box t x => match o.dst with
  | some d => if (ev σ x).solid then mkBox n d ⟨t,false,(ev σ x).cells⟩ (.ref (n + d) 0) σ (K i) else False
  | none => False
 | .call c =>
  match c.callee with
  | .value (.func f) => callA P S n f (c.args.toList.map (ev σ)) o.dst σ fun σ' => if simpleBx σ' && simpleD o.dst σ' then K i σ' else False
  | .value f => match ev σ f,i with
   | .yld l',some i => if AV.treeL (c.args.toList.map (ev σ)) then
     l' = l ∧ Y i (AV.normL (c.args.toList.map (ev σ))) ∧ K (some (i + 1)) ((dropOwn n σ).put o.dst .tt) ∧ K none ((dropOwn n σ).put o.dst .ff) else False
   | _,_ => False
  | _ => match popA P (ev σ) (.call c) with
   | some v => K i (σ.put o.dst v)
   | none => False
 | op => match popA P (ev σ) op with
  | some v => K i (σ.put o.dst v)
  | none => False
def aopsY (dsts:List (Option Nat)):List Oper → Option Nat → St → (Option Nat → St → Prop) → Prop
 | [],i,σ,K => K i σ
 | o :: r,i,σ,K =>
  match o.guard with
  | none => aopY P S n l Y o i σ fun i σ => aopsY dsts r i σ K
  | some (j,want) =>
   match dsts[j]? with
   | some (some d) =>
    match σ.sl.getD d .undef with
    | .tt => if want then aopY P S n l Y o i σ fun i σ => aopsY dsts r i σ K else aopsY dsts r i (σ.put o.dst (.tup [])) K
    | .ff => if want then aopsY dsts r i (σ.put o.dst (.tup [])) K else aopY P S n l Y o i σ fun i σ => aopsY dsts r i σ K
    | .bool b =>
     if want then br b (aopY P S n l Y o i (σ.put (some d) .tt) fun i σ => aopsY dsts r i σ K) (aopsY dsts r i ((σ.put (some d) .ff).put o.dst (.tup [])) K)
     else br b (aopsY dsts r i ((σ.put (some d) .tt).put o.dst (.tup [])) K) (aopY P S n l Y o i (σ.put (some d) .ff) fun i σ => aopsY dsts r i σ K)
    | .tup [] => aopsY dsts r i (σ.put o.dst (.tup [])) K
    | _ => False
   | _ => False
def seqY (ops:Array Oper):List Nat → Option Nat → St → (Option Nat → St → Prop) → Prop
 | [],i,σ,K => K i σ
 | q :: r,i,σ,K => match ops[q]? with
  | some o => if o.guard.isNone then aopY P S n l Y o i σ fun i σ => seqY ops r i σ K else False
  | none => False
def cutY (ops:Array Oper):List Nat → List Nat × List Nat
 | [] => ([],[])
 | i :: r => if (match ops[i]? with
   | some o => !pureAt ops i o
   | none => true) then ([],i :: r) else (i :: (cutY ops r).1,(cutY ops r).2)
def drawY (ops:Array Oper) (ord:List Nat) (i:Option Nat) (σ:St) (K:Option Nat → St → Prop):Prop :=
 forceL (cutY ops ord).1 fun pre => forceL (cutY ops ord).2 fun fin =>
  if finalOK ops pre fin && pre.all (fun j => match ops[j]? with
   | some o => pureAt ops j o
   | none => false) then dops P S n ops pre [] σ fun σ => seqY P S n l Y ops fin i σ K else False
def loopY (keep D:List Nat) (p:Pat) (f:Option Nat → St → (Ex → Option Nat → St → Prop) → Prop) (i:Option Nat) (σ:St) (K:Ex → Option Nat → St → Prop):Prop :=
 match i with
 | none => False
 | some i0 => if patIn D p then ∃ I:Nat → Nat → List AV → Prop,toHeadC P n keep D p true σ σ (fun vs => ∃ m,I m i0 vs) ∧
   ∀ m i:Nat,headKC P n keep D p σ fun vs τ => I m i vs → f (some i) τ fun e j σ1 => match e with
    | .normal => match j with
     | some j => (σ1.sl.length = σ.sl.length ∧ sameL σ σ1 (keep.filter fun t => !D.contains t)) ∧ toHeadC P n keep D p false σ σ1 fun vs => ∃ k,k < m ∧ I k j vs
     | none => False
    | e => K e j σ1
  else False
def awpY (ctl:Ctl):Code → Option Nat → St → (Ex → Option Nat → St → Prop) → Prop
 | .skip,i,σ,K => K .normal i σ
 | .region _ ops true,i,σ,K => forceL (topo S.frs ops ops.size (List.range ops.size) []) fun ord => if P.follows .mixedOrders && ((allocsOf S.frs ops).all (fun d => freshB n d σ) && ordOK ops ord) then drawY P S n l Y ops ord i σ fun i σ => cleanK ctl.keep σ (K .normal i) else False
 | .region _ ops false,i,σ,K => aopsY P S n l Y (dstsOf ops.toList) ops.toList i σ fun i σ => cleanK ctl.keep σ (K .normal i)
 | .seq a b,i,σ,K => awpY ctl a i σ fun e i σ => match e with
   | .normal => awpY ctl b i σ K
   | e => K e i σ
 | .cond c a b,i,σ,K => match ev σ c with
  | .tt => awpY ctl a i σ K
  | .ff => awpY ctl b i σ K
  | .bool x => br x (awpY ctl a i σ K) (awpY ctl b i σ K)
  | _ => False
 | .block id b,i,σ,K => awpY ctl b i σ fun e i σ => match e with
  | .exit j => if j = id then K .normal i σ else K (.exit j) i σ
  | e => K e i σ
 | .loop b,i,σ,K => match patOf ctl.loops (firstId b) with
  | some p => loopY P n ctl.keep (ctl.dsts b) (p.res n σ) (awpY ctl b) i σ K
  | none => False
 | .exit id,i,σ,K => K (.exit id) i σ
 | .ret,i,σ,K => K .ret i σ
 | _,_,_,_ => False
def ends (len:Nat):Option Nat → Prop
 | some i => i = len
 | none => True
def awpS (ctl:Ctl) (fn:Func) (args:List AV) (boxes:List Bx) (len:Nat):Prop :=
 match fn.body with
 | some c => awpY P S n l Y ctl c (some 0) (initSt fn (.yld l :: args) boxes) fun e i _ => match e with
  | .exit _ => False
  | _ => ends len i
 | none => False
end

section
variable {n l:Nat} {μ0:Lay} {ρ:RO} {J:Nat → World → Prop} {Jx:World → Prop}
def HJ (J:Nat → World → Prop) (Jx:World → Prop):Option Nat → World → Prop
 | some i,W => J i W
 | none,W => Jx W
def AtY (n:Nat) (μ0:Lay) (ρ:RO) (J:Nat → World → Prop) (Jx:World → Prop) (K:Option Nat → St → Prop) (a:Act) (w:World):Prop :=
 ∃ i W μ σ,Sat [] n μ0 ρ W ρ μ σ a w ∧ HJ J Jx i W ∧ K i σ
theorem Sat.step {W:World} {μ:Lay} {σ:St} {a:Act} {w:World} (hs:Sat [] n μ0 ρ W ρ μ σ a w):ItStep μ0 n W w:=⟨hs.size,hs.frame,hs.os,hs.tape,hs.output⟩
theorem Sat.subB {ds:List Deferred} {ρ0:RO} {w0:World} {μ:Lay} {σ:St} {a:Act} {w:World} (hs:Sat ds n μ0 ρ0 w0 ρ μ σ a w) {bx:List (Option Bx)} (hb:∀ b x,bx.getD b none = some x → σ.bx.getD b none = some x):Sat ds n μ0 ρ0 w0 ρ μ { σ with bx:=bx } a w:=by
 have hbox:∀ b cs,({ σ with bx:=bx }:St).box b = some cs → σ.box b = some cs:=by
  intro b cs h
  obtain ⟨x,hx,rfl⟩:=box_some h
  exact box_bx (hb b x hx)
 exact { hs with
  box:=fun b x hx => hs.box b x (hb b x hx)
  inj:=fun b b' cs cs' h h' => hs.inj b b' cs cs' (hbox _ _ h) (hbox _ _ h')
  sep:=fun b cs h => hs.sep b cs (hbox _ _ h)
  own:=fun b cs h => hs.own b cs (hbox _ _ h) }
theorem dropOwn_bx {σ:St} {b:Nat} {x:Bx} (h:(dropOwn n σ).bx.getD b none = some x):b < n ∧ σ.bx.getD b none = some x:=by
 simp only [dropOwn,List.getD,mapI_get] at h ⊢
 cases hg:σ.bx[b]? with
 | none => rw [hg] at h; cases h
 | some y =>
  rw [hg] at h
  simp only [Option.map_some,Option.getD_some] at h ⊢
  split at h
  ·exact ⟨by assumption,h⟩
  ·cases h
theorem Rv.simple {v:AV} (hv:v.simple = true) {ρ':RO} {lv:Option Lay} {cv:Value} (h:Rv ρ' lv v cv) (ρ:RO):Rv ρ lv v cv:=by
 cases v with
 | undef => exact .undef ..
 | tt => cases h; exact .tt ..
 | ff => cases h; exact .ff ..
 | bool b => cases h; exact .bool ..
 | lit k n => cases h; exact .lit ..
 | int k n => cases h; exact .int ..
 | str s => cases h; exact .str ..
 | _ => cases hv
theorem Sat.back {W:World} {ρ':RO} {μ:Lay} {σ σ':St} {a:Act} {w w':World} {d:Option Nat} {cv:Value} (hs:Sat [] n μ0 ρ W ρ μ σ a w) (hs':Sat [] n μ0 ρ W ρ' μ σ' (a.put d cv) w') (hfr:FrD (Dst d) σ σ') (hb:simpleBx σ' = true) (hd:simpleD d σ' = true) :
  Sat [] n μ0 ρ W ρ μ σ' (a.put d cv) w' :=
 {hs' with
  defs:=.nil _ _ _
  sl:=fun t => by
   by_cases ht:d = some t
   ·subst ht
    exact Rv.simple hd (hs'.sl t) ρ
   ·rw [hfr.2 t ht]
    have h1:=hs.sl t
    have e:(a.put d cv).tmps.getD t Go.undef = a.tmps.getD t Go.undef:=by
     cases d with
     | none => rfl
     | some d =>
      show (a.tmps.setIfInBounds d cv).getD t Go.undef = _
      rw [setIf_getD,if_neg]
      rintro ⟨rfl,_⟩
      exact ht rfl
    rw [e]; exact h1
  box:=fun b x hx => by
   obtain ⟨h1,h2⟩:=hs'.box b x hx
   refine ⟨h1,?_⟩
   rcases h2 with h2 | ⟨o,h3,h4⟩
   ·exact .inl h2
   ·refine .inr ⟨o,h3,h4.imp rfl fun j cv hv => ?_⟩
    have hsb:=List.all_eq_true.1 hb (some x) (by
     have hlt:=lt_of_bx hx
     have:σ'.bx[b]? = some (some x):=by
      simp only [List.getD] at hx
      rw [List.getElem?_eq_getElem hlt] at hx ⊢
      simpa using hx
     exact List.mem_of_getElem? this)
    simp only [Bool.and_eq_true,List.all_eq_true] at hsb
    refine Rv.simple ?_ hv ρ
    rcases Nat.lt_or_ge j x.cs.length with hj | hj
    ·exact hsb.2 _ (by rw [List.getD,List.getElem?_eq_getElem hj]; exact List.getElem_mem hj)
    ·rw [getD_le hj]; rfl
  sep:=fun b cs h hk => by
   have h1:=hs'.sep b cs h hk
   cases hr:ρ (μ b).1 with
   | none => rfl
   | some o => rw [hs'.le _ _ hr] at h1; cases h1
  ro:=fun k o h => hs'.ro k o (hs'.le k o h)
  le:=RO.le_refl ρ
  new:=fun k o h h0 => by rw [h0] at h; cases h }
theorem Sat.yielded {W W':World} {μ:Lay} {σ:St} {a:Act} {w:World} (hs:Sat [] n μ0 ρ W ρ μ σ a w) (hk:ItKeep ρ μ0 n w W'):Sat [] n μ0 ρ W' ρ μ (dropOwn n σ) a W' :=
 {hs.subB (bx:=(dropOwn n σ).bx) (fun b x h => (dropOwn_bx h).2) with
  defs:=.nil _ _ _
  box:=fun b x hx => by
   obtain ⟨hb,hx⟩:=dropOwn_bx hx
   obtain ⟨h1,h2⟩:=hs.box b x hx
   refine ⟨h1,?_⟩
   by_cases h0:(μ b).2 = 0
   ·exact .inl h0
   ·rcases h2 with h2 | ⟨o,h3,h5⟩
    ·exact absurd h2 h0
    ·have hi:=hs.inc b hb
     refine .inr ⟨o,?_,h5⟩
     rw [← h3,hi]
     exact hk.box b hb (by rw [← hi]; exact h0)
  own:=fun b cs h hk hn => by
   obtain ⟨x,hx,-⟩:=box_some h
   have:=(dropOwn_bx hx).1
   omega
  ro:=hk.ro
  le:=RO.le_refl ρ
  new:=fun k o h h0 => by rw [h0] at h; cases h
  frame:=fun _ _ _ => rfl
  size:=Nat.le_refl _
  os:=rfl
  tape:=rfl
  output:=rfl }
variable {P:Program} {frs:Ways} {il:InlF} {Y:Nat → List AV → Prop}
def Rounds (P:Program) (n l:Nat) (μ0:Lay) (ρ:RO) (J:Nat → World → Prop) (Jx:World → Prop) (Y:Nat → List AV → Prop):Prop :=
 ∀ i x ys W,Y i x → J i W → Rvs ρ none x ys → (∀ k o,ρ k = some o → W.heap[k]? = some o) →
   YieldAt Fence.wide 0 P l ys W fun e W' => ItKeep ρ μ0 n W W' ∧ ((e = .returned (.bool true) ∧ J (i + 1) W') ∨ (e = .returned (.bool false) ∧ Jx W'))
theorem wp_rnd {o:Oper} {a:Act} {w:World} {fn:FuncId} {tmps:Array Value} {assign body:Code} {R:Ending → World → Prop} {next:Act → World → Prop} {Q:Exit → Act → World → Prop}
  (h:(execOp a.eval o).run P w = .ok (.round l fn tmps assign body) w) (hR:RoundIn Fence.wide 0 P l fn tmps assign body w R) (hn:∀ e w',R e w' → ∃ v,e = .returned v ∧ next (a.put o.dst v) w'):o.wpIn (Fr none) 0 P a w next Q:=by
 refine ⟨fun _ _ => trivial,?_⟩
 show o.uponIn (Fr none) 0 P a next Q ((o.semAt none a.eval).run P w)
 rw [semAt_run h (by simp),Oper.uponIn_round]
 refine ⟨fun h => (by cases h),RoundIn.mono (F:=Fr none) hR fun e w' he => ?_⟩
 obtain ⟨v,rfl,hn⟩:=hn e w' he
 exact hn
theorem aopY_spec (hR:Rounds P n l μ0 ρ J Jx Y) (hJ:∀ i W W',J i W → ItStep μ0 n W W' → J i W') {o:Oper} {K:Option Nat → St → Prop} {Q:Exit → Act → World → Prop} {i:Option Nat} {W:World} {μ:Lay} {σ:St} {a:Act} {w:World}
  (hs:Sat [] n μ0 ρ W ρ μ σ a w) (hi:HJ J Jx i W) (h:aopY P (SpecsOf P frs il) n l Y o i σ K):o.wpIn (Fr none) 0 P a w (AtY n μ0 ρ J Jx K) Q:=by
 have pop:(match popA P (ev σ) o.op with
   | some v => K i (σ.put o.dst v)
   | none => False) → o.wpIn (Fr none) 0 P a w (AtY n μ0 ρ J Jx K) Q:=by
  intro h
  split at h
  ·rename_i v hv
   obtain ⟨cv,h1,h2⟩:=popA_spec (fun x => hs.eval x) o hv w
   exact wp_val h1 ⟨i,W,μ,_,hs.put h2,hi,h⟩
  ·exact h.elim
 obtain ⟨dst,op,type,pos,after,guard⟩:=o
 unfold aopY at h
 cases op with
 | load t x =>
  obtain ⟨v,cv,h1,h2,h3⟩:=loadA_spec hs (hs.eval x) h
  exact wp_val (lift_val h1) ⟨i,W,μ,_,hs.put h2,hi,h3⟩
 | store t x y =>
  obtain ⟨σ',w',h1,h2,h3⟩:=storeA_spec (P:=P) hs (hs.eval x) (hs.eval y) h
  exact wp_skp (by simp [execOp,h1]) ⟨i,W,μ,_,h2.put (.tup _ _ #[] rfl (fun j => .undef ..)),hi,h3⟩
 | indexAddr t x j =>
  obtain ⟨v,cv,h1,h2,h3⟩:=indexAddrA_spec (hs.eval x) (hs.eval j) h w
  exact wp_val (lift_val h1) ⟨i,W,μ,_,hs.put h2,hi,h3⟩
 | slice t x lo hy mx =>
  obtain ⟨v,cv,h1,h2,h3⟩:=sliceA_spec hs (hs.eval x) (RvQ_map hs lo) (RvQ_map hs hy) (RvQ_map hs mx) h
  exact wp_val (lift_val h1) ⟨i,W,μ,_,hs.put h2,hi,h3⟩
 | alloc t =>
  simp only at h
  split at h
  ·rename_i d z hz
   obtain ⟨cv,w',μ',σ',h1,h2,h3⟩:=alloc_spec hs hz h
   exact wp_val (lift_val h1) ⟨i,W,μ',σ',h2,hi,h3⟩
  ·exact h.elim
 | box t x =>
  simp only at h
  split at h
  ·rename_i d
   split at h
   ·rename_i hsol
    obtain ⟨cv,w',μ',σ',h1,h2,h3⟩:=box_spec (P:=P) hs (hs.eval x) hsol h
    exact wp_val (lift_val h1) ⟨i,W,μ',σ',h2,hi,h3⟩
   ·exact h.elim
  ·exact h.elim
 | call c =>
  simp only at h
  split at h
  ·rename_i f hc
   have h':=callA_mf (K':=fun σ' => FrD (Dst dst) σ σ' ∧ if simpleBx σ' && simpleD dst σ' then K i σ' else False) (fun σ' h1 h2 => ⟨h1,h2⟩) h
   obtain ⟨h1,h2⟩:=callA_spec (vs:=c.args.map a.eval) hs (Rvs_ops hs c.args) h'
   have hrun:∀ r,(callFunc f (c.args.map a.eval)).run P w = r → (execOp a.eval (⟨dst,.call c,type,pos,after,guard⟩:Oper)).run P w = r:=fun r hr => by
    obtain ⟨callee,args,ats⟩:=c
    simp only at hc
    subst hc
    rw [← hr]
    simp only [execOp,resolve,Deferred.ofValue,Act.eval,Sem.run_bind,Sem.run_pure,Result.andThen_ok,invoke]
    simp
   refine wp_ent (hrun _ h1) (h2.mono fun e w' he => ?_)
   obtain ⟨cv,rfl,ρ',σ',h3,h4,h5⟩:=he
   split at h5
   ·rename_i hc
    rw [Bool.and_eq_true] at hc
    exact ⟨cv,rfl,i,W,μ,σ',hs.back h3 h4 hc.1 hc.2,hi,h5⟩
   ·exact h5.elim
  ·rename_i f hnf hc
   split at h
   ·rename_i l' i hev
    split at h
    ·rename_i hcond
     obtain ⟨rfl,hy,hk1,hk2⟩:=h
     have hf:=hs.eval f
     rw [hev] at hf
     generalize hfe:a.eval f = u at hf
     cases hf
     have hargs:=Rvs_ops hs c.args
     have hargs':Rvs ρ none (AV.normL (c.args.toList.map (ev σ))) (c.args.map a.eval):=by
      refine ⟨by rw [normL_length]; exact hargs.1,fun j => ?_⟩
      rw [normL_getD]
      exact ((hargs.2 j).of_tree (treeL_getD hcond j)).norm
     obtain ⟨fn,tmps,assign,body,h1,h2⟩:=hR i _ _ w hy (hJ _ _ _ hi hs.step) hargs' hs.ro
     have hex:(execOp a.eval { dst,op:=.call c,type,pos,after,guard }).run P w = .ok (.round l' fn tmps assign body) w:=by
      simp only [execOp,resolve,Deferred.ofValue,hc,hfe,Sem.run_bind,Sem.run_pure,Result.andThen_ok,invoke]
      simp [h1]
     refine wp_rnd hex h2 ?_
     rintro e W' ⟨hk,(⟨rfl,hj⟩ | ⟨rfl,hj⟩)⟩
     ·exact ⟨_,rfl,some (i + 1),W',μ,_,(hs.yielded hk).put (.tt _),hj,hk1⟩
     ·exact ⟨_,rfl,none,W',μ,_,(hs.yielded hk).put (.ff _),hj,hk2⟩
    ·exact h.elim
   ·exact h.elim
  ·exact pop h
 | _ => exact pop h
variable (hR:Rounds P n l μ0 ρ J Jx Y) (hJ:∀ i W W',J i W → ItStep μ0 n W W' → J i W')
include hR hJ
theorem aopsY_spec {ops:Array Oper} {K:Option Nat → St → Prop} {Q:Exit → Act → World → Prop} (hQ:∀ a w,AtY n μ0 ρ J Jx K a w → Q .normal a w) :
  ∀ (r:List Oper) (k:Nat) (i:Option Nat) (W:World) (μ:Lay) (σ:St) (a:Act) (w:World),ops.toList.drop k = r → Sat [] n μ0 ρ W ρ μ σ a w → HJ J Jx i W → aopsY P (SpecsOf P frs il) n l Y (dstsOf ops.toList) r i σ K →
   wpOpsIn (Fr none) 0 P ops Q (List.range' k r.length) a w:=by
 intro r
 induction r with
 | nil => intro k i W μ σ a w _ hs hi h; exact hQ a w ⟨i,W,μ,σ,hs,hi,h⟩
 | cons o r ih =>
  intro k i W μ σ a w hd hs hi h
  have ho:ops[k]? = some o:=by
   have:(ops.toList.drop k)[0]? = some o:=by rw [hd]; rfl
   simpa using this
  have hr:ops.toList.drop (k + 1) = r:=by
   have:(ops.toList.drop k).drop 1 = r:=by rw [hd]; rfl
   rw [List.drop_drop] at this
   rw [← this,Nat.add_comm]
  have hrest:∀ a w,AtY n μ0 ρ J Jx (fun i σ => aopsY P (SpecsOf P frs il) n l Y (dstsOf ops.toList) r i σ K) a w → wpOpsIn (Fr none) 0 P ops Q (List.range' (k + 1) r.length) a w:=by
   rintro a w ⟨i,W,μ,σ,hs,hi,h⟩
   exact ih (k + 1) i W μ σ a w hr hs hi h
  have hmono:∀ σ,Sat [] n μ0 ρ W ρ μ σ a w → aopY P (SpecsOf P frs il) n l Y o i σ (fun i σ => aopsY P (SpecsOf P frs il) n l Y (dstsOf ops.toList) r i σ K) → o.wpIn (Fr none) 0 P a w (wpOpsIn (Fr none) 0 P ops Q (List.range' (k + 1) r.length)) Q :=
   fun σ hs h => Oper.wpIn_mono hrest (aopY_spec hR hJ hs hi h)
  have hskip:∀ σ,Sat [] n μ0 ρ W ρ μ σ a w → aopsY P (SpecsOf P frs il) n l Y (dstsOf ops.toList) r i (σ.put o.dst (.tup [])) K → wpOpsIn (Fr none) 0 P ops Q (List.range' (k + 1) r.length) (a.put o.dst Go.undef) w :=
   fun σ hs h => ih (k + 1) i W μ _ _ w hr (hs.put (.tup _ _ #[] rfl (fun j => .undef ..))) hi h
  rw [List.length_cons,List.range'_succ]
  refine wpOps_step ho ?_
  simp only [aopsY] at h
  split at h
  ·rename_i hg
   exact .inl ⟨by simp [Region.wanted,hg],hmono σ hs h⟩
  ·rename_i j want hg
   split at h
   ·rename_i d hdj
    obtain ⟨y1,y2⟩:=yielded_of hdj hs
    have hw:∀ b,yielded ops a.tmps j = some b → Region.wanted o (yielded ops a.tmps) = (b == want):=by
     intro b hb
     simp only [Region.wanted,hg,hb]
     cases b <;> cases want <;> rfl
    split at h
    ·rename_i ht
     obtain ⟨h1,h2⟩:=y1 true (by rw [ht]; rfl)
     split at h
     ·rename_i hwant
      exact .inl ⟨by rw [hw _ h1]; simp [hwant],hmono σ hs h⟩
     ·rename_i hwant
      exact .inr ⟨by rw [hw _ h1]; cases want <;> simp_all,hskip σ hs h⟩
    ·rename_i ht
     obtain ⟨h1,h2⟩:=y1 false (by rw [ht]; rfl)
     split at h
     ·rename_i hwant
      exact .inr ⟨by rw [hw _ h1]; cases want <;> simp_all,hskip σ hs h⟩
     ·rename_i hwant
      exact .inl ⟨by rw [hw _ h1]; cases want <;> simp_all,hmono σ hs h⟩
    ·rename_i b ht
     obtain ⟨h1,h2⟩:=y1 b (by rw [ht]; rfl)
     have htrue:b = true → Sat [] n μ0 ρ W ρ μ (σ.put (some d) .tt) a w:=fun hb => hs.reput (by rw [h2,hb]; exact .tt _)
     have hfalse:b = false → Sat [] n μ0 ρ W ρ μ (σ.put (some d) .ff) a w:=fun hb => hs.reput (by rw [h2,hb]; exact .ff _)
     split at h
     ·rename_i hwant
      cases hb:b with
      | true => exact .inl ⟨by rw [hw _ h1,hb,hwant]; rfl,hmono _ (htrue hb) (h.1 hb)⟩
      | false => exact .inr ⟨by rw [hw _ h1,hb,hwant]; rfl,hskip _ (hfalse hb) (h.2 hb)⟩
     ·rename_i hwant
      have hwant:want = false:=by simpa using hwant
      cases hb:b with
      | true => exact .inr ⟨by rw [hw _ h1,hb,hwant]; rfl,hskip _ (htrue hb) (h.1 hb)⟩
      | false => exact .inl ⟨by rw [hw _ h1,hb,hwant]; rfl,hmono _ (hfalse hb) (h.2 hb)⟩
    ·rename_i ht
     have h1:=y2 ht
     refine .inr ⟨?_,hskip σ hs h⟩
     simp only [Region.wanted,hg,h1]
     cases want <;> rfl
    ·exact h.elim
   ·exact h.elim
theorem seqY_spec {ops:Array Oper} {K:Option Nat → St → Prop} {Q:Exit → Act → World → Prop} (hQ:∀ a w,AtY n μ0 ρ J Jx K a w → Q .normal a w) :
  ∀ (fin seen:List Nat) (listed:Array Bool) (i:Option Nat) (W:World) (μ:Lay) (σ:St) (a:Act) (w:World),seqOK ops fin seen = true → fin.Nodup → listed.size = ops.size → (∀ i,i < ops.size → (listed.getD i true = false ↔ i ∈ fin)) → (∀ x ∈ seen,x ∉ fin) → Closed ops listed →
   Sat [] n μ0 ρ W ρ μ σ a w → HJ J Jx i W → seqY P (SpecsOf P frs il) n l Y ops fin i σ K → wpAnyIn (Fr none) 0 P .any ops Q fin.length listed a w:=by
 intro fin
 induction fin with
 | nil =>
  intro seen listed i W μ σ a w _ _ hls hl _ _ hs hi h
  refine ⟨?_,hQ a w ⟨i,W,μ,σ,hs,hi,h⟩⟩
  rw [List.eq_nil_iff_forall_not_mem]
  intro j hj
  obtain ⟨h1,o,ho,_⟩:=mem_ready.1 hj
  have:=(hl j (Array.getElem?_eq_some_iff.1 ho).1).1 h1
  cases this
 | cons q r ih =>
  intro seen listed i W μ σ a w hok hnd hls hl hseen hcl hs hi h
  have hok':=hok
  simp only [seqOK,Bool.and_eq_true] at hok
  obtain ⟨⟨f1,f2⟩,f3⟩:=hok
  unfold seqY at h
  split at h
  case h_2 => exact h.elim
  rename_i o ho
  rw [ho] at f1
  have hlt:=(Array.getElem?_eq_some_iff.1 ho).1
  have hrl:q ∈ Region.ready .any ops listed:=by
   refine mem_ready.2 ⟨(hl q hlt).2 (by simp),o,ho,fun e he hbd => ?_⟩
   have he':=List.all_eq_true.1 f1 e (by simpa using he)
   simp only [Bool.and_eq_true,decide_eq_true_eq,List.contains_iff_mem] at he'
   cases hg:listed.getD e.on false with
   | true => rfl
   | false =>
    have hlt':e.on < listed.size:=by omega
    have h3:listed.getD e.on true = false:=by
     simp only [Array.getD,dif_pos hlt'] at hg ⊢
     exact hg
    exact absurd ((hl e.on he'.1).1 h3) (hseen _ he'.2)
  refine ⟨fun hnil => (by rw [hnil] at hrl; cases hrl),fun j hj => ?_⟩
  obtain ⟨g1,oj,hoj,_⟩:=mem_ready.1 hj
  have hjf:=(hl j (Array.getElem?_eq_some_iff.1 hoj).1).1 g1
  have hjl:j = q:=by
   rcases List.mem_cons.1 hjf with h | h
   ·exact h
   ·exfalso
    obtain ⟨s',h1,h2⟩:=seqOK_mem r (q :: seen) j f3 h
    have h3:=ready_fin hls hcl hj h2 q (h1 q (by simp)) hlt
    have h4:=(hl q hlt).2 (by simp)
    rw [h3] at h4; cases h4
  subst hjl
  split at h
  case isFalse => exact h.elim
  rename_i hgd
  have hgd:o.guard = none:=Option.isNone_iff_eq_none.1 hgd
  unfold wpOpIn
  simp only [ho]
  rw [if_pos (by simp [Region.wanted,hgd])]
  refine Oper.wpIn_mono ?_ (aopY_spec hR hJ hs hi h)
  rintro a w ⟨i,W,μ,σ,hs,hi,h⟩
  refine ih (j :: seen) _ i W μ σ a w f3 (List.nodup_cons.1 hnd).2 (by simp [hls]) (fun i hi => ?_) (fun x hx => ?_) (hcl.set hls hj) hs hi h
  ·by_cases hij:i = j
   ·subst hij
    simp [Array.getD,hls,hi,(List.nodup_cons.1 hnd).1]
   ·rw [getD_set_ne true (Ne.symm hij),hl i hi]; simp [hij]
  ·rcases List.mem_cons.1 hx with rfl | hx
   ·exact (List.nodup_cons.1 hnd).1
   ·exact fun hm => hseen x hx (List.mem_cons_of_mem _ hm)
omit hR hJ in
theorem cutY_eq {ops:Array Oper}:∀ (l:List Nat),(cutY ops l).1 ++ (cutY ops l).2 = l:=by
 intro l
 induction l with
 | nil => rfl
 | cons i r ih =>
  simp only [cutY]
  repeat' split
  all_goals first | rfl | simp only [List.cons_append,ih]
theorem drawY_spec {ops:Array Oper} {id:Nat} {ord:List Nat} {K:Option Nat → St → Prop} {Q:Exit → Act → World → Prop} {i:Option Nat} {W:World} {μ:Lay} {σ:St} {a:Act} {w:World} (hm:P.follows .mixedOrders = true) (hQ:∀ a w,AtY n μ0 ρ J Jx K a w → Q .normal a w) (hs:Sat [] n μ0 ρ W ρ μ σ a w) (hi:HJ J Jx i W)
  (hfr:(allocsOf frs ops).all (fun d => freshB n d σ) = true) (hord:ordOK ops ord = true) (h:drawY P (SpecsOf P frs il) n l Y ops ord i σ K):(Code.region id ops true).wpIn (Fr none) 0 P Q a w:=by
 refine wpIn_region_any hm ?_
 simp only [ordOK,Bool.and_eq_true,decide_eq_true_eq,beq_iff_eq] at hord
 obtain ⟨⟨⟨o1,o2⟩,o3⟩,o4⟩:=hord
 have hin:∀ i,i < ops.size → i ∈ ord:=fun i hi => by
  have:=List.all_eq_true.1 o1 i (List.mem_range.2 hi)
  simpa only [List.contains_eq_mem,decide_eq_true_eq] using this
 have hcl0:Closed ops (Array.replicate ops.size false):=fun i o ho h => by
  have hi:=(Array.getElem?_eq_some_iff.1 ho).1
  simp [Array.getD,hi] at h
 unfold drawY at h
 simp only [forceL_eq] at h
 split at h
 case isFalse => exact h.elim
 rename_i hf
 rw [Bool.and_eq_true] at hf
 obtain ⟨hf,hpu⟩:=hf
 have hsplit:=cutY_eq (ops:=ops) ord
 generalize (cutY ops ord).1 = pre at h hf hpu hsplit
 generalize (cutY ops ord).2 = fin at h hf hpu hsplit
 simp only [finalOK,Bool.and_eq_true] at hf
 obtain ⟨f2,f3⟩:=hf
 obtain ⟨t,σk,h1,h2,h3,h4,h5,h6,h7⟩:=dops_trace pre [] σ h
 have hnd:(pre ++ fin).Nodup:=by rw [hsplit]; exact o2
 have hsz:t.length + fin.length = ops.size:=by
  have e1:=congrArg List.length h1
  have e2:=congrArg List.length hsplit
  simp only [List.length_map,List.length_append] at e1 e2
  omega
 have hmem:∀ i,i < ops.size → i ∈ pre ∨ i ∈ fin:=fun i hi => by
  have:=hin i hi
  rw [← hsplit] at this
  exact List.mem_append.1 this
 have hdis:∀ i,i ∈ pre → i ∉ fin:=fun i h1 h2 => (List.nodup_append.1 hnd).2.2 i h1 i h2 rfl
 suffices h:wpAnyIn (Fr none) 0 P .any ops Q (t.length + fin.length) (Array.replicate ops.size false) a w.drew by rw [hsz] at h; exact h
 refine any_orderP (σk:=σk) (L:=σ.sl.length) (fin:=fin) ?_ ?_ ?_ ?_ t.length t _ μ σ a _ rfl rfl (hs.drawn _) h2 h4 h6 (fun s hs d hd => ?_) ?_ (by simp) ?_ ?_ hcl0
 ·intro j o ho hjf
  have h':=(hmem j (Array.getElem?_eq_some_iff.1 ho).1).resolve_right hjf
  have:=List.all_eq_true.1 hpu j h'
  rw [ho] at this
  exact this
 ·intro listed μ a w hls hcl hl hs
  exact seqY_spec hR hJ hQ fin pre.reverse listed i W μ σk a w f2 (List.nodup_append.1 hnd).2.1 hls hl (fun x hx => hdis x (List.mem_reverse.1 hx)) hcl hs hi h3
 ·intro listed j hls hcl hj hrd i hi hil'
  rcases hmem i hi with h | h
  ·exfalso
   obtain ⟨s',g1,g2⟩:=seqOK_mem fin pre.reverse j f2 hj
   have:=ready_fin hls hcl hrd g2 i (g1 i (List.mem_reverse.2 h)) hi
   rw [hil'] at this; cases this
  ·exact h
 ·intro i o hi ho e he hbd hmem'
  have h':=(hmem i (Array.getElem?_eq_some_iff.1 ho).1).resolve_right hi
  have:=List.all_eq_true.1 f3 i h'
  rw [ho] at this
  have:=List.all_eq_true.1 this e he
  simp [hbd,hmem'] at this
 ·exact freshB_to (List.all_eq_true.1 hfr d (h7 s hs d hd))
 ·rw [h1]; exact (List.nodup_append.1 hnd).1
 ·intro i hi
  rw [h1]
  simp [Array.getD,hi,hmem i hi]
 ·rw [h1]; exact hdis
omit hR hJ in
theorem sameL_mem {σ0 σ1:St}:∀ {l:List Nat},sameL σ0 σ1 l → ∀ t ∈ l,σ1.sl.getD t .undef = σ0.sl.getD t .undef:=by
 intro l
 induction l with
 | nil => intro _ t h; cases h
 | cons x r ih =>
  intro h t ht
  rcases List.mem_cons.1 ht with rfl | ht
  ·exact h.1
  ·exact ih h.2 t ht
theorem awpY_spec {ctl:Ctl}:∀ (c:Code) (K:Ex → Option Nat → St → Prop) (Q:Exit → Act → World → Prop) (i:Option Nat) (W:World) (μ:Lay) (σ:St) (a:Act) (w:World),
  (∀ e a w,AtY n μ0 ρ J Jx (K e) a w → Q (Ex.to e) a w) → Sat [] n μ0 ρ W ρ μ σ a w → HJ J Jx i W → awpY P (SpecsOf P frs il) n l Y ctl c i σ K → c.wpIn (Fr none) 0 P Q a w:=by
 intro c
 induction c with
 | skip => intro K Q i W μ σ a w hQ hs hi h; exact wpIn_skip (hQ .normal a w ⟨i,W,μ,σ,hs,hi,h⟩)
 | region id ops draw =>
  intro K Q i W μ σ a w hQ hs hi h
  cases draw with
  | true =>
   simp only [awpY,cleanK_eq,forceL_eq] at h
   split at h
   case isFalse => exact h.elim
   rename_i hc
   rw [Bool.and_eq_true,Bool.and_eq_true] at hc
   exact drawY_spec hR hJ hc.1 (K:=fun i σ => K .normal i (clean ctl.keep σ)) (fun a w ⟨i,W,μ,σ,hs,hi,h⟩ => hQ .normal a w ⟨i,W,μ,_,hs.clean ctl.keep,hi,h⟩) hs hi hc.2.1 hc.2.2 h
  | false =>
   simp only [awpY,cleanK_eq] at h
   refine wpIn_region ?_
   have:=aopsY_spec hR hJ (ops:=ops) (K:=fun i σ => K .normal i (clean ctl.keep σ)) (Q:=Q) (fun a w ⟨i,W,μ,σ,hs,hi,h⟩ => hQ .normal a w ⟨i,W,μ,_,hs.clean ctl.keep,hi,h⟩) ops.toList 0 i W μ σ a w rfl hs hi h
   rw [List.range_eq_range']
   simpa using this
 | seq x y ihx ihy =>
  intro K Q i W μ σ a w hQ hs hi h
  simp only [awpY] at h
  refine wpIn_seq (ihx _ _ i W μ σ a w ?_ hs hi h)
  rintro e a w ⟨i,W,μ,σ,hs,hi,h⟩
  cases e with
  | normal => exact ihy K Q i W μ σ a w hQ hs hi h
  | exit id => exact hQ (.exit id) a w ⟨i,W,μ,σ,hs,hi,h⟩
  | ret => exact hQ .ret a w ⟨i,W,μ,σ,hs,hi,h⟩
 | cond c x y ihx ihy =>
  intro K Q i W μ σ a w hQ hs hi h
  have hc:=hs.eval c
  simp only [awpY] at h
  split at h
  ·rename_i hh; rw [hh] at hc
   generalize hcc:a.eval c = u at hc
   cases hc
   exact wpIn_cond_true hcc (ihx K Q i W μ σ a w hQ hs hi h)
  ·rename_i hh; rw [hh] at hc
   generalize hcc:a.eval c = u at hc
   cases hc
   exact wpIn_cond_false hcc (ihy K Q i W μ σ a w hQ hs hi h)
  ·rename_i b hh; rw [hh] at hc
   generalize hcc:a.eval c = u at hc
   cases hc
   exact wpIn_cond_split hcc (fun hb => ihx K Q i W μ σ a w hQ hs hi (h.1 hb)) (fun hb => ihy K Q i W μ σ a w hQ hs hi (h.2 hb))
  ·exact h.elim
 | block id b ih =>
  intro K Q i W μ σ a w hQ hs hi h
  refine wpIn_block (ih _ _ i W μ σ a w ?_ hs hi h)
  rintro e a w ⟨i,W,μ,σ,hs,hi,h⟩
  cases e with
  | normal => exact hQ .normal a w ⟨i,W,μ,σ,hs,hi,h⟩
  | exit j =>
   simp only [Ex.to,Exit.inBlock]
   split
   ·rename_i hj
    simp only [hj,if_true] at h
    exact hQ .normal a w ⟨i,W,μ,σ,hs,hi,h⟩
   ·rename_i hj
    simp only [hj,if_false] at h
    exact hQ (.exit j) a w ⟨i,W,μ,σ,hs,hi,h⟩
  | ret => exact hQ .ret a w ⟨i,W,μ,σ,hs,hi,h⟩
 | loop b ih =>
  intro K Q i W μ σ a w hQ hs hi h
  simp only [awpY] at h
  split at h
  case h_2 => exact h.elim
  rename_i p0 hp
  generalize p0.res n σ = p at h
  unfold loopY at h
  split at h
  ·exact h.elim
  rename_i i0
  split at h
  case isFalse => exact h.elim
  obtain ⟨I,he,hround⟩:=h
  obtain ⟨gs,ls,bs,⟨m0,g1⟩,g2,g3,g4,g5⟩:=toHeadC_spec (P:=P) (n:=n) rfl (fun _ _ _ => rfl) (fun _ => rfl) he
  obtain ⟨μ',hs'⟩:=hs.weaken g5
  have key:∀ (M m:Nat),m < M → ∀ (i:Nat) (gs:List AV) (ls:List (List AV)) (bs:List AV) (W:World) (μ':Lay) (a:Act) (w:World),I m i (headV gs ls bs) → fitL (p.gen.map (·.2)) gs = true → ls.length = p.app.length + p.cap.length → fitL (p.bgen.map (·.2)) bs = true →
    Sat [] n μ0 ρ W ρ μ' (dropC p.cap (headSt P n (ctl.keep ++ capSl σ.sl.length p.cap) (ctl.dsts b ++ capSl σ.sl.length p.cap) (p.up σ.sl.length) (liftC p.cap σ) gs ls bs)) a w → J i W → Code.roundsIn (Fr none) 0 P b Q M a w:=by
   intro M
   induction M with
   | zero => intro m hm; omega
   | succ M ihM =>
    intro m hm i gs ls bs W μ' a w g1 g2 g3 g4 hs' hi
    rw [roundsIn_succ]
    refine ih _ _ (some i) W μ' _ a w ?_ hs' hi (headKC_fit g2 g3 g4 (hround m i) g1)
    rintro e a w ⟨j,W,μ,σ1,hs,hi,h⟩
    cases e with
    | normal =>
     simp only at h
     split at h
     ·rename_i j
      obtain ⟨⟨hl,hsame⟩,h⟩:=h
      obtain ⟨gs,ls,bs,⟨k,hk,g1⟩,g2,g3,g4,g5⟩:=toHeadC_spec (P:=P) (n:=n) hl (fun t h1 h2 => sameL_mem hsame t (List.mem_filter.2 ⟨h1,by simpa using h2⟩)) (fun he => by cases he) h
      obtain ⟨μ',hs'⟩:=hs.weaken g5
      exact ihM k (by omega) j gs ls bs W μ' a w g1 g2 g3 g4 hs' hi
     ·exact h.elim
    | exit id => exact hQ (.exit id) a w ⟨j,W,μ,σ1,hs,hi,h⟩
    | ret => exact hQ .ret a w ⟨j,W,μ,σ1,hs,hi,h⟩
  exact wpIn_loop_rounds (m0 + 1) (key (m0 + 1) m0 (Nat.lt_succ_self _) i0 gs ls bs W μ' a w g1 g2 g3 g4 hs' hi)
 | exit id => intro K Q i W μ σ a w hQ hs hi h; exact wpIn_exit (hQ (.exit id) a w ⟨i,W,μ,σ,hs,hi,h⟩)
 | ret => intro K Q i W μ σ a w hQ hs hi h; exact wpIn_ret (hQ .ret a w ⟨i,W,μ,σ,hs,hi,h⟩)
 | _ => intros; rename_i h; exact h.elim
end
theorem Sat.start {fn:Func} {args:List AV} {boxes:List Bx} {ρ:RO} {μ:Lay} {w:World} {vs:Array Value} (harr:boxes.all (fun x => !x.arr) = true) (hro:∀ k o,ρ k = some o → w.heap[k]? = some o)
  (hbox:∀ b cs,(boxes.map (·.cs))[b]? = some cs → BoxAt ρ (some μ) μ w b cs) (hinj:∀ b b',b < boxes.length → b' < boxes.length → b ≠ b' → (μ b).2 ≠ 0 → (μ b').2 ≠ 0 → (μ b).1 ≠ (μ b').1)
  (hsep:∀ b,b < boxes.length → (μ b).2 ≠ 0 → ρ (μ b).1 = none) (hargs:Rvs ρ (some μ) args vs) :
  Sat [] boxes.length μ ρ w ρ μ (initSt fn args boxes) { tmps:=vs ++ Array.replicate (fn.ntmps - vs.size) Go.undef,defers:=[] } w:=by
 have hbx:∀ b x,(initSt fn args boxes).bx.getD b none = some x → b < boxes.length ∧ boxes[b]? = some x:=by
  intro b x hx
  simp only [initSt,List.getD,List.getElem?_append,List.length_map,List.getElem?_map] at hx
  split at hx
  ·rename_i hlt
   cases hg:boxes[b]? with
   | none => simp [hg] at hx
   | some y => simp only [hg,Option.map_some,Option.getD_some,Option.some.injEq] at hx; exact ⟨hlt,by rw [hx]⟩
  ·rename_i hlt
   have:(List.replicate (fn.ntmps + 8) (none:Option Bx))[b - boxes.length]?.getD none = none:=by
    cases hg:(List.replicate (fn.ntmps + 8) (none:Option Bx))[b - boxes.length]? with
    | none => rfl
    | some y => exact (List.eq_of_mem_replicate (List.mem_of_getElem? hg))
   rw [this] at hx; cases hx
 have hlive:∀ b cs,(initSt fn args boxes).box b = some cs → b < boxes.length:=by
  intro b cs h
  obtain ⟨x,hx,-⟩:=box_some h
  exact (hbx b x hx).1
 refine { dfe:=rfl,defs:=.nil _ _ _,sz:=?_,sl:=?_,box:=?_,inj:=?_,sep:=?_,own:=?_,inc:=fun _ _ => rfl,ro:=hro,le:=RO.le_refl ρ,new:=?_,frame:=fun _ _ _ => rfl,size:=Nat.le_refl _,os:=rfl,tape:=rfl,output:=rfl }
 ·simp only [initSt,List.length_append,List.length_replicate,Array.size_append,Array.size_replicate,hargs.1]
 ·have h2:Rvs ρ (some μ) (List.replicate (fn.ntmps - args.length) .undef) (Array.replicate (fn.ntmps - vs.size) Go.undef):=by
   refine ⟨by simp [hargs.1],fun j => ?_⟩
   have:(List.replicate (fn.ntmps - args.length) AV.undef).getD j .undef = .undef:=by
    simp only [List.getD]
    cases hg:(List.replicate (fn.ntmps - args.length) AV.undef)[j]? with
    | none => rfl
    | some y => exact List.eq_of_mem_replicate (List.mem_of_getElem? hg)
   rw [this]; exact .undef ..
  exact (Rvs_append hargs h2).2
 ·intro b x hx
  obtain ⟨h1,h2⟩:=hbx b x hx
  have h3:=hbox b x.cs (by simp [h2])
  have:lev μ x = some μ:=by
   unfold lev
   rw [if_neg]
   have:=List.all_eq_true.1 harr x (List.mem_of_getElem? h2)
   simpa using this
  rw [this]; exact h3
 ·intro b b' cs cs' h h' hne hk hk'
  exact hinj b b' (hlive b cs h) (hlive b' cs' h') hne hk hk'
 ·intro b cs h hk
  exact hsep b (hlive b cs h) hk
 ·intro b cs h _ hn
  have:=hlive b cs h
  omega
 ·intro k o h h0
  rw [h0] at h; cases h
theorem seq_of {P:Program} {f:FuncId} {fn:Func} {ctl:Ctl} {args:List AV} {boxes:List Bx} {xs:List (List AV)} (hf:P.funcs[f]? = some fn) (hcall:∀ (vs:Array Value) (w:World),(callFunc f vs).run P w = .ok (.enter f vs) w)
  (harr:boxes.all (fun x => !x.arr) = true) (hres:fn.results = #[]) {frs:Ways} {il:InlF} (h:∀ l,awpS P (SpecsOf P frs il) boxes.length l (fun i x => xs[i]? = some x) ctl fn args boxes xs.length):SeqOf P f args (boxes.map (·.cs)) xs:=by
 refine ⟨hcall,fun ρ μ w vs l J Jx hro hbox hinj hsep hargs hJ hJx hround h0 => ?_⟩
 have h:=h l
 unfold awpS at h
 cases hb:fn.body with
 | none => simp [hb] at h
 | some c =>
  rw [hb] at h
  simp only at h
  have hl:(boxes.map (·.cs)).length = boxes.length:=by simp
  rw [hl] at hinj hsep hJ hJx hround
  refine callsIn_wide.1 (callsIn_of_wp_marks (F:=Fence.wide) (n:=0) hf hb trivial ?_)
  have hs:=Sat.start (fn:=fn) harr hro hbox hinj hsep (Rvs_append (Rvs_one (.yld _ l)) hargs)
  refine awpY_spec hround hJ c _ _ (some 0) w μ _ _ w ?_ hs h0 h
  rintro e a w' ⟨i,W,μ',σ',hs',hi,h'⟩
  have fin:ends xs.length i → LeavesInM Fence.wide 0 P fn a.tmps (fun e W' => (∃ v,e = .returned v) ∧ (J xs.length W' ∨ Jx W')) a.defers .returning w':=fun h' => by
   have ha:a = ⟨a.tmps,[]⟩:=by have:=hs'.dfe; cases a; simp_all
   have hd:=hs'.dfe
   rw [ha] at hs'
   rw [hd]
   refine Sat.leaves (fun ρ2 tmps w2 hs2 => ?_) [] a.tmps ρ w' hs'
   refine ⟨.tuple #[],by simp [results,hres],⟨_,rfl⟩,?_⟩
   have hst:ItStep μ boxes.length W w2:=⟨hs2.size,hs2.frame,hs2.os,hs2.tape,hs2.output⟩
   cases i with
   | some i => have h':i = xs.length:=h'; subst h'; exact .inl (hJ _ _ _ hi hst)
   | none => exact .inr (hJx _ _ hi hst)
  cases e with
  | normal => exact fin h'
  | exit id => exact h'.elim
  | ret => exact fin h'
theorem seq_by {P:Program} {ws:Ways} {f:FuncId} {fn:Func} {ctl:Ctl} {args:List AV} {boxes:List Bx} {css:List (List AV)} {n:Nat} {xs:List (List AV)} {R:Nat → Prop} (hf:P.funcs[f]? = some fn)
  (hcall:∀ (vs:Array Value) (w:World),(callFunc f vs).run P w = .ok (.enter f vs) w) (hn:boxes.length = n) (hcs:boxes.map (·.cs) = css) (harr:boxes.all (fun x => !x.arr) = true) (hres:fn.results = #[])
  (he:∀ l,awpS P (mkS P (SpecOf P) (FreshOf P) (SeqOf P) ws 0) n l (fun i x => xs[i]? = some x) ctl fn args boxes xs.length = R l) (h:∀ l,R l):SeqOf P f args css xs:=by
 subst hn; subst hcs
 exact seq_of (frs:=ws) (il:=fun _ _ _ _ => False) hf hcall harr hres fun l => by have:=he l; unfold mkS at this; unfold SpecsOf; rw [this]; exact h l
end Go.Proofs.YtblebiafhhhflaaGreat

/- RoundInserted: what Insert returns has all jobs of the plan, in their order, and the other one; it is worth as much as both together; and no plan with this job at another place and without faults costs less, for any task, plan and job, another lorry and place. The variable of the package that it reads is as the program lays it. -/
import Derived.Test.YtdeeekgohhkdbaaGreatDoorVg
import Derived.Test.YtdeeekgohhkdbaaGreatDoorCards
import Derived.Test.YtdeeekgohhkdbaaGreatDoorTie
namespace Go.Proofs.YtdeeekgohhkdbaaGreatDoor.roundInsertedDone
open Go.ChangeShapes Go.WideShapes Go.ChangeAt Go.RowKit Go.Proofs.YtdeeekgohhkdbaaGreatDoor
theorem own:ownKnob Tryz.prog.godebug=none:=by kernel_rfl
theorem TV:laidOutB Tryz.prog=true:=by kernel_rfl
theorem un4:Tryz.prog.underlying 4=some .bool:=by kernel_rfl
theorem psL:Tryz.f14.params.toList=[31,32,96]:=by kernel_rfl
theorem EL {d:Nat} {cs:List AV} (h:yJ Tryz.prog d 96 cs):∃ x:Int × Int × Int,cs=[.int .i64 x.1,.int .i64 x.2.1,.int .i64 x.2.2]:=by
 obtain ⟨d1,ps,rfl,hl,hp⟩:=SI (n:=3) (e:=3) (by kernel_rfl) h
 match ps,hl,hp with
 | [p0,p1,p2],_,hp =>
  obtain ⟨x0,rfl,_⟩:=yB (k:=.i64) (by kernel_rfl) (hp p0 (by simp))
  obtain ⟨x1,rfl,_⟩:=yB (k:=.i64) (by kernel_rfl) (hp p1 (by simp))
  obtain ⟨x2,rfl,_⟩:=yB (k:=.i64) (by kernel_rfl) (hp p2 (by simp))
  exact ⟨(x0,x1,x2),rfl⟩
set_option maxRecDepth 100000 in
theorem lifted (os:Os) (started:os.Started) (H:Type) (enc:TypeId × Value->H) :
  ReturnsInHanded {} Tryz.checked os 14 .any (fun w args=>(Rows.roundInsertedSpec.pre enc Tryz.prog Tryz.f14 Rows.roundInsertedRow.domain false w args/\laidMetH Tryz.prog Qm w)/\sizedMet enc Tryz.prog Tryz.f14 (OpenSpec.ofChange Rows.roundInsertedSpec) false w args)
   (Rows.roundInsertedSpec.post enc Tryz.prog Tryz.f14 false true false false):=by
 refine returnsInHanded_of_change_and (C:=Tryz.checked) (X:=fun w _=>laidMetH Tryz.prog Qm w) (fun _ _ _ hh h=>h.of_heap hh) own started (by kernel_rfl) Tryz.func14
  (ChangeSpec.witness_at (enc:=enc) (C:=Tryz.checked) (os:=os) (X:=fun w _=>laidMetH Tryz.prog Qm w) false (US os) #[.agg #[.int .i64 0,.int .i64 0,.int .i64 0,.int .i64 0,.int .i64 0,.int .i64 0,.int .i64 0,.int .i64 0,.int .i64 0,.slice none 0 0,.slice none 0 0,.slice none 0 0,.slice none 0 0],.slice none 0 0,.agg #[.int .i64 0,.int .i64 0,.int .i64 0]] 8 rfl (by kernel_rfl) (by kernel_rfl) (by kernel_rfl) (by kernel_rfl) (by kernel_rfl) (Ug os _)) ?_
 intro W base args ds gs before hval0 hW hcnd hsz hL _
 have hval:∀ (j:Nat) t v,Tryz.f14.params[j]?=some t->args[j]?=some v->Value.okWide Tryz.prog W .any base t v:=hval0
 have hW':=hW
 obtain ⟨p,q,hA0,hV,rfl,hfz,hnd⟩:=hW
 have hA:DataW.TrodAll enc Tryz.prog W 0 (fun _=>true) true Tryz.f14.params.toList args.toList ds p:=hA0
 rw [psL] at hA
 have hval:∀ (j:Nat) t v,([31,32,96]:List TypeId)[j]?=some t->args.toList[j]?=some v->Value.okWide Tryz.prog W .any base t v:=fun j t v h1 h2=>hval j t v (by rw [<- Array.getElem?_toList,psL]; exact h1) (by rw [<- Array.getElem?_toList]; exact h2)
 have r:=hA
 obtain ⟨v0,vs0,d0,ds0,p0,q0,hargs,rfl,rfl,h0,r⟩:=trodAll_cons r
 obtain ⟨v1,vs1,d1,ds1,p1,q1,rfl,rfl,rfl,h1,r⟩:=trodAll_cons r
 obtain ⟨v2,vs2,d2,ds2,p2,q2,rfl,rfl,rfl,h2,r⟩:=trodAll_cons r
 obtain ⟨rfl,rfl,rfl⟩:=trodAll_nil r
 obtain rfl:args=#[v0,v1,v2]:=by cases args; simp_all
 obtain ⟨rfl,rfl⟩:=trodVars_none hV
 have lt0:∀ x∈p0,x.block<W.heap.size:=by obtain ⟨m,hm⟩:=h0; exact DataW.trod_lt m _ _ _ hm
 obtain ⟨_,a0,c0,e0⟩:=WX (D:=8) (by kernel_rfl) h0 (fun n hn=>zt_ (List.all_eq_true.1 hsz n (DataW.weights_mem_each (j:=0) (t:=31) (by kernel_rfl) rfl n hn))) (hval 0 31 v0 rfl rfl)
 rw [show yk Tryz.prog 31=true by kernel_rfl] at e0
 obtain ⟨t,rfl,ht⟩:=EG c0
 have lt1:∀ x∈p1,x.block<W.heap.size:=by obtain ⟨m,hm⟩:=h1; exact DataW.trod_lt m _ _ _ hm
 obtain ⟨_,a1,c1,e1⟩:=WX (D:=8) (by kernel_rfl) h1 (fun n hn=>zt_ (List.all_eq_true.1 hsz n (DataW.weights_mem_each (j:=1) (t:=32) (by kernel_rfl) rfl n hn))) (hval 1 32 v1 rfl rfl)
 rw [show yk Tryz.prog 32=false by kernel_rfl] at e1
 obtain ⟨plan,rfl⟩:=Hg c1
 have lt2:∀ x∈p2,x.block<W.heap.size:=by obtain ⟨m,hm⟩:=h2; exact DataW.trod_lt m _ _ _ hm
 obtain ⟨_,a2,c2,e2⟩:=WX (D:=8) (by kernel_rfl) h2 (fun n hn=>zt_ (List.all_eq_true.1 hsz n (DataW.weights_mem_each (j:=2) (t:=96) (by kernel_rfl) rfl n hn))) (hval 2 96 v2 rfl rfl)
 rw [show yk Tryz.prog 96=true by kernel_rfl] at e2
 obtain ⟨y,rfl⟩:=EL c2
 have hr:Rvs (kF W) none [t.av,.slc 3 (yz plan),.agg [.int .i64 y.1,.int .i64 y.2.1,.int .i64 y.2.2]] #[v0,v1,v2]:=⟨rfl,fun j=>by
  match j with
  | 0=>exact e0
  | 1=>exact e1
  | 2=>exact e2
  | j+3=>exact .undef ..⟩
 refine (N1 (c14 t ht plan y.1 y.2.1 y.2.2) (PR hL) hr).mono fun e W' ⟨he,bel⟩=>?_
 subst he
 exact ⟨_,rfl,_,_,_,[],_,[],hW',trodAll_mk1 (shut_bool un4 _),(trodAll_cons_mk (Below.trod TV (by kernel_rfl) (zt_ (by kernel_rfl)) h0 bel lt0) (trodAll_cons_mk (Below.trod TV (by kernel_rfl) (zt_ (by kernel_rfl)) h1 bel lt1) (trodAll_cons_mk (Below.trod TV (by kernel_rfl) (zt_ (by kernel_rfl)) h2 bel lt2) trodAll_mk0))),rfl,bel.frame _,fun h=>by cases h⟩
theorem j1:(Rows.roundInsertedRow.inPlace == Tryz.pinned.checked.prog.inPlace 14)=true:=by kernel_rfl
theorem j2:(Rows.roundInsertedRow.unfollowed == Tryz.pinned.checked.prog.unfollowed 14)=true:=by kernel_rfl
theorem j3:(Rows.roundInsertedRow.recurses == Tryz.pinned.checked.prog.recurses 14)=true:=by kernel_rfl
theorem j4:(Rows.roundInsertedRow.named == Tryz.pinned.checked.prog.varsNamed 14)=true:=by kernel_rfl
theorem closed:joinedFacts Tryz.pinned.checked.prog 14 Tryz.f14 Rows.roundInsertedSpec Rows.roundInsertedRow=true:=by
 unfold joinedFacts
 rw [j1,j2,j3,j4]
 kernel_rfl
theorem EM:Rows.RoundInsertedSaid :=
 OpenClaim.holds_of_wide 14 Tryz.f14 rfl rfl rfl rfl rfl rfl rfl ⟨rfl,rfl,rfl,rfl,rfl⟩ rfl rfl rfl rfl rfl (by kernel_rfl) Tryz.func14 closed
  (zt_ (by kernel_rfl)) (by unfold Func.isWrapper; first | (rw [if_pos (by decide +kernel)]; kernel_rfl) | (rw [if_neg (by decide +kernel)]; exact ⟨rfl,rfl⟩))
  (fun os started H enc _=>lifted os started H enc)
theorem proved:Rows.RoundInsertedCardSaid :=
 Claim7.holds_tied_plain_at .later [] [.data] true (true, "f4e39b73c9ac14d2e8fd8a12ac0a5b567e61d23b25d9e4a9d8400f1c83b80bad") false
  EM (fun _ h=>by cases h) (by kernel_rfl) (fun _ h=>by cases h) roundInserted_row_tie rfl ⟨rfl,rfl⟩ (by kernel_rfl) rfl
  (fun f fn hf hfn=>by
   obtain rfl:f=14:=Option.some.inj ((show Tryz.prog.funcNamed "linkboy/linkboylaw11.RoundInserted"=some 14 by kernel_rfl).symm.trans hf) |>.symm
   obtain rfl:fn=Tryz.f14:=(Option.some.inj (Tryz.func14.symm.trans hfn)).symm
   exact ⟨by kernel_rfl,fun j t ht=>by
    have hm:t∈[31,32,96]:=by rw [<- psL]; exact Array.mem_toList_iff.2 (Array.mem_of_getElem? ht)
    have hall:([31,32,96].all fun u=>!Tryz.prog.wantsStandIn u)=true:=by kernel_rfl
    exact (show Tryz.prog.wantsStandIn t=false by simpa using List.all_eq_true.1 hall t hm)⟩)
  (by kernel_rfl)
#print axioms proved
end Go.Proofs.YtdeeekgohhkdbaaGreatDoor.roundInsertedDone

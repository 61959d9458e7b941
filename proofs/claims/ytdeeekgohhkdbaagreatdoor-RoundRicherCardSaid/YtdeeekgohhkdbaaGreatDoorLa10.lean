/- RoundRicher: with greater budgets the benefit of Choose is not less, and no bound, for any data. The variable of the package that it reads is as the program lays it. -/
import Derived.Test.YtdeeekgohhkdbaaGreatDoorMg
import Derived.Test.YtdeeekgohhkdbaaGreatDoorOf
import Derived.Test.YtdeeekgohhkdbaaGreatDoorOd
import Derived.Test.YtdeeekgohhkdbaaGreatDoorCards
import Derived.Test.YtdeeekgohhkdbaaGreatDoorTie
namespace Go.Proofs.YtdeeekgohhkdbaaGreatDoor.roundRicherDone
open Go.ChangeShapes Go.WideShapes Go.ChangeAt Go.RowKit Go.Proofs.YtdeeekgohhkdbaaGreatDoor
theorem own:ownKnob Tryz.prog.godebug = none:=by kernel_rfl
theorem laidOut:laidOutB Tryz.prog = true:=by kernel_rfl
theorem un4:Tryz.prog.underlying 4 = some .bool:=by kernel_rfl
theorem psL:Tryz.f10.params.toList = [66,41,87]:=by kernel_rfl
set_option maxRecDepth 100000 in
theorem lifted (os:Os) (started:os.Started) (H:Type) (enc:TypeId × Value → H) :
  ReturnsInHanded {} Tryz.checked os 10 .any (fun w args => (Rows.roundRicherSpec.pre enc Tryz.prog Tryz.f10 Rows.roundRicherRow.domain false w args ∧ laidMetH Tryz.prog laidN w) ∧ sizedMet enc Tryz.prog Tryz.f10 (OpenSpec.ofChange Rows.roundRicherSpec) false w args)
   (Rows.roundRicherSpec.post enc Tryz.prog Tryz.f10 false true false false):=by
 refine returnsInHanded_of_change_and (C:=Tryz.checked) (X:=fun w _ => laidMetH Tryz.prog laidN w) (fun _ _ _ hh h => h.of_heap hh) own started (by kernel_rfl) Tryz.func10
  (ChangeSpec.witness_at (enc:=enc) (C:=Tryz.checked) (os:=os) (X:=fun w _ => laidMetH Tryz.prog laidN w) false (laidWorld os) #[.agg #[.slice none 0 0,.slice none 0 0,.int .i64 0,.int .i64 0],.slice none 0 0,.agg #[.int .u16 0,.int .u16 0]] 8 rfl (by kernel_rfl) (by kernel_rfl) (by kernel_rfl) (by kernel_rfl) (by kernel_rfl) (laidWorld_met os _)) ?_
 intro W base args ds gs before hval0 hW hcnd hsz hL _
 have hval:∀ (j:Nat) t v,Tryz.f10.params[j]? = some t → args[j]? = some v → Value.okWide Tryz.prog W .any base t v:=hval0
 have hW':=hW
 obtain ⟨p,q,hA0,hV,rfl,hfz,hnd⟩:=hW
 have hA:DataW.TrodAll enc Tryz.prog W 0 (fun _ => true) true Tryz.f10.params.toList args.toList ds p:=hA0
 rw [psL] at hA
 have hval:∀ (j:Nat) t v,([66,41,87]:List TypeId)[j]? = some t → args.toList[j]? = some v → Value.okWide Tryz.prog W .any base t v:=fun j t v h1 h2 => hval j t v (by rw [← Array.getElem?_toList,psL]; exact h1) (by rw [← Array.getElem?_toList]; exact h2)
 have r:=hA
 obtain ⟨v0,vs0,d0,ds0,p0,q0,hargs,rfl,rfl,h0,r⟩:=trodAll_cons r
 obtain ⟨v1,vs1,d1,ds1,p1,q1,rfl,rfl,rfl,h1,r⟩:=trodAll_cons r
 obtain ⟨v2,vs2,d2,ds2,p2,q2,rfl,rfl,rfl,h2,r⟩:=trodAll_cons r
 obtain ⟨rfl,rfl,rfl⟩:=trodAll_nil r
 obtain rfl:args = #[v0,v1,v2]:=by cases args; simp_all
 obtain ⟨rfl,rfl⟩:=trodVars_none hV
 have lt0:∀ x ∈ p0,x.block < W.heap.size:=by obtain ⟨m,hm⟩:=h0; exact DataW.trod_lt m _ _ _ hm
 obtain ⟨_,a0,c0,e0⟩:=arg_open (D:=8) (by kernel_rfl) h0 (fun n hn => of_decide_eq_true (List.all_eq_true.1 hsz n (DataW.weights_mem_each (j:=0) (t:=66) (by kernel_rfl) rfl n hn))) (hval 0 66 v0 rfl rfl)
 rw [show isAggT Tryz.prog 66 = true by kernel_rfl] at e0
 obtain ⟨p,rfl,hp⟩:=op66 c0
 have lt1:∀ x ∈ p1,x.block < W.heap.size:=by obtain ⟨m,hm⟩:=h1; exact DataW.trod_lt m _ _ _ hm
 obtain ⟨_,a1,c1,e1⟩:=arg_open (D:=8) (by kernel_rfl) h1 (fun n hn => of_decide_eq_true (List.all_eq_true.1 hsz n (DataW.weights_mem_each (j:=1) (t:=41) (by kernel_rfl) rfl n hn))) (hval 1 41 v1 rfl rfl)
 rw [show isAggT Tryz.prog 41 = false by kernel_rfl] at e1
 obtain ⟨zs1,rfl⟩:=opInts c1
 have lt2:∀ x ∈ p2,x.block < W.heap.size:=by obtain ⟨m,hm⟩:=h2; exact DataW.trod_lt m _ _ _ hm
 obtain ⟨_,a2,c2,e2⟩:=arg_open (D:=8) (by kernel_rfl) h2 (fun n hn => of_decide_eq_true (List.all_eq_true.1 hsz n (DataW.weights_mem_each (j:=2) (t:=87) (by kernel_rfl) rfl n hn))) (hval 2 87 v2 rfl rfl)
 rw [show isAggT Tryz.prog 87 = true by kernel_rfl] at e2
 obtain ⟨y,rfl,hy0,hy1⟩:=opA2u c2
 have hr:Rvs (ofHeap W) none [p.av,.slc 3 (zs1.map (AV.int .i64)),.agg [.int .u16 y.1,.int .u16 y.2]] #[v0,v1,v2]:=⟨rfl,fun j => by
  match j with
  | 0 => exact e0
  | 1 => exact e1
  | 2 => exact e2
  | j + 3 => exact .undef ..⟩
 refine (law_calls (c10 p hp zs1 y.1 y.2 hy0 hy1) (laid_globs hL) hr).mono fun e W' ⟨he,bel⟩ => ?_
 subst he
 exact ⟨_,rfl,_,_,_,[],_,[],hW',trodAll_mk1 (shut_bool un4 _),(trodAll_cons_mk (Below.trod laidOut (by kernel_rfl) (of_decide_eq_true (by kernel_rfl)) h0 bel lt0) (trodAll_cons_mk (Below.trod laidOut (by kernel_rfl) (of_decide_eq_true (by kernel_rfl)) h1 bel lt1) (trodAll_cons_mk (Below.trod laidOut (by kernel_rfl) (of_decide_eq_true (by kernel_rfl)) h2 bel lt2) trodAll_mk0))),rfl,bel.frame _,fun h => by cases h⟩
theorem j1:(Rows.roundRicherRow.inPlace == Tryz.pinned.checked.prog.inPlace 10) = true:=by kernel_rfl
theorem j2:(Rows.roundRicherRow.unfollowed == Tryz.pinned.checked.prog.unfollowed 10) = true:=by kernel_rfl
theorem j3:(Rows.roundRicherRow.recurses == Tryz.pinned.checked.prog.recurses 10) = true:=by kernel_rfl
theorem j4:(Rows.roundRicherRow.named == Tryz.pinned.checked.prog.varsNamed 10) = true:=by kernel_rfl
theorem closed:joinedFacts Tryz.pinned.checked.prog 10 Tryz.f10 Rows.roundRicherSpec Rows.roundRicherRow = true:=by
 unfold joinedFacts
 rw [j1,j2,j3,j4]
 kernel_rfl
theorem over:Rows.RoundRicherSaid :=
 OpenClaim.holds_of_wide 10 Tryz.f10 rfl rfl rfl rfl rfl rfl rfl ⟨rfl,rfl,rfl,rfl,rfl⟩ rfl rfl rfl rfl rfl (by kernel_rfl) Tryz.func10 closed
  (of_decide_eq_true (by kernel_rfl)) (by unfold Func.isWrapper; first | (rw [if_pos (by decide +kernel)]; kernel_rfl) | (rw [if_neg (by decide +kernel)]; exact ⟨rfl,rfl⟩))
  (fun os started H enc _ => lifted os started H enc)
theorem proved:Rows.RoundRicherCardSaid :=
 Claim7.holds_tied_plain_at .later [] [.data] true (true, "f4e39b73c9ac14d2e8fd8a12ac0a5b567e61d23b25d9e4a9d8400f1c83b80bad") false
  over (fun _ h => by cases h) (by kernel_rfl) (fun _ h => by cases h) roundRicher_row_tie rfl ⟨rfl,rfl⟩ (by kernel_rfl) rfl
  (fun f fn hf hfn => by
   obtain rfl:f = 10:=Option.some.inj ((show Tryz.prog.funcNamed "linkboy/linkboylaw11.RoundRicher" = some 10 by kernel_rfl).symm.trans hf) |>.symm
   obtain rfl:fn = Tryz.f10:=(Option.some.inj (Tryz.func10.symm.trans hfn)).symm
   exact ⟨by kernel_rfl,fun j t ht => by
    have hm:t ∈ [66,41,87]:=by rw [← psL]; exact Array.mem_toList_iff.2 (Array.mem_of_getElem? ht)
    have hall:([66,41,87].all fun u => !Tryz.prog.wantsStandIn u) = true:=by kernel_rfl
    exact (show Tryz.prog.wantsStandIn t = false by simpa using List.all_eq_true.1 hall t hm)⟩)
  (by kernel_rfl)
#print axioms proved
end Go.Proofs.YtdeeekgohhkdbaaGreatDoor.roundRicherDone

/- RoundEnough: what Carry returns is enough for each of the sets; with one part less of a kind it is not enough for some set, for any needs and sets. Where what it reads is of a bulk of at most 1048576; the variable of the package that it reads is as the program lays it. -/
import Derived.Test.YtdeeekgohhkdbaaGreatDoorPg
import Derived.Test.YtdeeekgohhkdbaaGreatDoorOe
import Derived.Test.YtdeeekgohhkdbaaGreatDoorOd
import Derived.Test.YtdeeekgohhkdbaaGreatDoorCards
import Derived.Test.YtdeeekgohhkdbaaGreatDoorTie
namespace Go.Proofs.YtdeeekgohhkdbaaGreatDoor.roundEnoughDone
open Go.ChangeShapes Go.WideShapes Go.ChangeAt Go.RowKit Go.Proofs.YtdeeekgohhkdbaaGreatDoor
theorem own:ownKnob Tryz.prog.godebug = none:=by kernel_rfl
theorem laidOut:laidOutB Tryz.prog = true:=by kernel_rfl
theorem un4:Tryz.prog.underlying 4 = some .bool:=by kernel_rfl
theorem psL:Tryz.f12.params.toList = [32,32]:=by kernel_rfl
set_option maxRecDepth 100000 in
theorem lifted (os:Os) (started:os.Started) (H:Type) (enc:TypeId × Value → H) (F:Stop.Interp) :
  ReturnsInHanded {} Tryz.checked os 12 .any (fun w args => ((Rows.OpenSpec.upto Rows.roundEnoughSpec).pre enc Tryz.prog Tryz.f12 Rows.roundEnoughUptoRow.domain false w args ∧ laidMetH Tryz.prog laidN w) ∧ sizedMet enc Tryz.prog Tryz.f12 (Rows.OpenSpec.upto Rows.roundEnoughSpec) false w args)
   (((Rows.OpenSpec.upto Rows.roundEnoughSpec).at F).post enc Tryz.prog Tryz.f12 false true false false):=by
 refine returns_upto (C:=Tryz.checked) (k:=Rows.uptoSmall) (s:=Rows.OpenSpec.upto Rows.roundEnoughSpec) rfl (X:=fun w _ => laidMetH Tryz.prog laidN w) (fun _ _ _ hh h => h.of_heap hh) own started (by kernel_rfl) Tryz.func12
  (witness_upto (enc:=enc) (C:=Tryz.checked) (os:=os) (k:=Rows.uptoSmall) (s:=Rows.OpenSpec.upto Rows.roundEnoughSpec) rfl (X:=fun w _ => laidMetH Tryz.prog laidN w) false (laidWorld os) #[.slice none 0 0,.slice none 0 0] 8 rfl (by kernel_rfl) (by kernel_rfl) (by kernel_rfl) (x:=([.nil,.nil],[],[])) (by kernel_rfl) (by kernel_rfl) (by kernel_rfl) (by kernel_rfl) (laidWorld_met os _)) ?_
 intro W base args ds gs before hval0 hW hbulk hsz hL
 have hval:∀ (j:Nat) t v,Tryz.f12.params[j]? = some t → args[j]? = some v → Value.okWide Tryz.prog W .any base t v:=hval0
 have hW':=hW
 obtain ⟨p,q,hA0,hV,rfl,hfz,hnd⟩:=hW
 have hA:DataW.TrodAll enc Tryz.prog W 0 (fun _ => true) true Tryz.f12.params.toList args.toList ds p:=hA0
 rw [psL] at hA
 have hval:∀ (j:Nat) t v,([32,32]:List TypeId)[j]? = some t → args.toList[j]? = some v → Value.okWide Tryz.prog W .any base t v:=fun j t v h1 h2 => hval j t v (by rw [← Array.getElem?_toList,psL]; exact h1) (by rw [← Array.getElem?_toList]; exact h2)
 have r:=hA
 obtain ⟨v0,vs0,d0,ds0,p0,q0,hargs,rfl,rfl,h0,r⟩:=trodAll_cons r
 obtain ⟨v1,vs1,d1,ds1,p1,q1,rfl,rfl,rfl,h1,r⟩:=trodAll_cons r
 obtain ⟨rfl,rfl,rfl⟩:=trodAll_nil r
 obtain rfl:args = #[v0,v1]:=by cases args; simp_all
 obtain ⟨rfl,rfl⟩:=trodVars_none hV
 have hbulk:Rows.uptoBulkAll [d0,d1] ≤ 1048576:=of_decide_eq_true hbulk
 simp only [Rows.uptoBulkAll] at hbulk
 have lt0:∀ x ∈ p0,x.block < W.heap.size:=by obtain ⟨m,hm⟩:=h0; exact DataW.trod_lt m _ _ _ hm
 obtain ⟨_,a0,c0,e0⟩:=arg_open (D:=8) (by kernel_rfl) h0 (fun n hn => of_decide_eq_true (List.all_eq_true.1 hsz n (DataW.weights_mem_each (j:=0) (t:=32) (by kernel_rfl) rfl n hn))) (hval 0 32 v0 rfl rfl)
 rw [show isAggT Tryz.prog 32 = false by kernel_rfl] at e0
 obtain ⟨P0,rfl⟩:=opPlanU c0
 have e0':Rv (ofHeap W) none (.slc 3 (planA P0)) v0:=e0
 have b0:P0.length + P0.flatten.length < Rows.uptoBulk d0:=by
  obtain ⟨m,hm⟩:=h0
  rw [slc_cells e0'] at hm
  exact bulk_plan hm e0'
 have lt1:∀ x ∈ p1,x.block < W.heap.size:=by obtain ⟨m,hm⟩:=h1; exact DataW.trod_lt m _ _ _ hm
 obtain ⟨_,a1,c1,e1⟩:=arg_open (D:=8) (by kernel_rfl) h1 (fun n hn => of_decide_eq_true (List.all_eq_true.1 hsz n (DataW.weights_mem_each (j:=1) (t:=32) (by kernel_rfl) rfl n hn))) (hval 1 32 v1 rfl rfl)
 rw [show isAggT Tryz.prog 32 = false by kernel_rfl] at e1
 obtain ⟨P1,rfl⟩:=opPlanU c1
 have e1':Rv (ofHeap W) none (.slc 3 (planA P1)) v1:=e1
 have b1:P1.length + P1.flatten.length < Rows.uptoBulk d1:=by
  obtain ⟨m,hm⟩:=h1
  rw [slc_cells e1'] at hm
  exact bulk_plan hm e1'
 have hr:Rvs (ofHeap W) none [.slc 3 (planA P0),.slc 3 (planA P1)] #[v0,v1]:=⟨rfl,fun j => by
  match j with
  | 0 => exact e0
  | 1 => exact e1
  | j + 2 => exact .undef ..⟩
 refine (law_calls (c12 P0 P1 (by omega) (by omega)) (laid_globs hL) hr).mono fun e W' ⟨he,bel⟩ => ?_
 subst he
 exact ⟨_,rfl,_,_,_,[],_,[],hW',trodAll_mk1 (shut_bool un4 _),(trodAll_cons_mk (Below.trod laidOut (by kernel_rfl) (of_decide_eq_true (by kernel_rfl)) h0 bel lt0) (trodAll_cons_mk (Below.trod laidOut (by kernel_rfl) (of_decide_eq_true (by kernel_rfl)) h1 bel lt1) trodAll_mk0)),rfl,bel.frame _,fun h => by cases h⟩
theorem j1:(Rows.roundEnoughUptoRow.inPlace == Tryz.pinned.checked.prog.inPlace 12) = true:=by kernel_rfl
theorem j2:(Rows.roundEnoughUptoRow.unfollowed == Tryz.pinned.checked.prog.unfollowed 12) = true:=by kernel_rfl
theorem j3:(Rows.roundEnoughUptoRow.recurses == Tryz.pinned.checked.prog.recurses 12) = true:=by kernel_rfl
theorem j4:(Rows.roundEnoughUptoRow.named == Tryz.pinned.checked.prog.varsNamed 12) = true:=by kernel_rfl
theorem closed:joinedFacts Tryz.pinned.checked.prog 12 Tryz.f12 (Rows.OpenSpec.upto Rows.roundEnoughSpec).bare Rows.roundEnoughUptoRow = true:=by
 unfold joinedFacts
 rw [j1,j2,j3,j4]
 kernel_rfl
theorem over:Rows.RoundEnoughUptoSaid :=
 OpenClaim.holds_of_cond 12 Tryz.f12 rfl rfl rfl rfl rfl rfl rfl ⟨rfl,rfl,rfl,rfl,rfl⟩ rfl rfl rfl rfl rfl (by kernel_rfl) Tryz.func12 closed
  (of_decide_eq_true (by kernel_rfl)) (by unfold Func.isWrapper; first | (rw [if_pos (by decide +kernel)]; kernel_rfl) | (rw [if_neg (by decide +kernel)]; exact ⟨rfl,rfl⟩))
  (fun os started H enc _ F => lifted os started H enc F)
theorem proved:Rows.RoundEnoughUptoCardSaid :=
 Claim7.holds_tied_plain_at .later [] [.data] true (true, "f4e39b73c9ac14d2e8fd8a12ac0a5b567e61d23b25d9e4a9d8400f1c83b80bad") false
  over (fun _ h => by cases h) (by kernel_rfl) (fun _ h => by cases h) roundEnoughUpto_row_tie rfl ⟨rfl,rfl⟩ (by kernel_rfl) rfl
  (fun f fn hf hfn => by
   obtain rfl:f = 12:=Option.some.inj ((show Tryz.prog.funcNamed "linkboy/linkboylaw11.RoundEnough" = some 12 by kernel_rfl).symm.trans hf) |>.symm
   obtain rfl:fn = Tryz.f12:=(Option.some.inj (Tryz.func12.symm.trans hfn)).symm
   exact ⟨by kernel_rfl,fun j t ht => by
    have hm:t ∈ [32,32]:=by rw [← psL]; exact Array.mem_toList_iff.2 (Array.mem_of_getElem? ht)
    have hall:([32,32].all fun u => !Tryz.prog.wantsStandIn u) = true:=by kernel_rfl
    exact (show Tryz.prog.wantsStandIn t = false by simpa using List.all_eq_true.1 hall t hm)⟩)
  (by kernel_rfl)
#print axioms proved
end Go.Proofs.YtdeeekgohhkdbaaGreatDoor.roundEnoughDone

/- RoundKnown: the examples of the document. The variable of the package that it reads is as the program lays it. -/
import Derived.Test.YtdeeekgohhkdbaaGreatDoorWe
import Derived.Test.YtdeeekgohhkdbaaGreatDoorCards
import Derived.Test.YtdeeekgohhkdbaaGreatDoorTie
namespace Go.Proofs.YtdeeekgohhkdbaaGreatDoor.roundKnownDone
open Go.ChangeShapes Go.WideShapes Go.ChangeAt Go.RowKit Go.Proofs.YtdeeekgohhkdbaaGreatDoor
theorem own:ownKnob Tryz.prog.godebug=none:=by kernel_rfl
theorem zaq:laidOutB Tryz.prog=true:=by kernel_rfl
theorem un4:Tryz.prog.underlying 4=some .bool:=by kernel_rfl
theorem psL:Tryz.f15.params.toList=[]:=by kernel_rfl
set_option maxRecDepth 100000 in
theorem lifted (os:Os) (started:os.Started) (H:Type) (enc:TypeId × Value->H) :
  ReturnsInHanded {} Tryz.checked os 15 .any (fun w args=>(Rows.roundKnownSpec.pre enc Tryz.prog Tryz.f15 Rows.roundKnownRow.domain false w args/\laidMetH Tryz.prog Ss w)/\sizedMet enc Tryz.prog Tryz.f15 (OpenSpec.ofChange Rows.roundKnownSpec) false w args)
   (Rows.roundKnownSpec.post enc Tryz.prog Tryz.f15 false true false false):=by
 refine returnsInHanded_of_change_and (C:=Tryz.checked) (X:=fun w _=>laidMetH Tryz.prog Ss w) (fun _ _ _ hh h=>h.of_heap hh) own started (by kernel_rfl) Tryz.func15
  (ChangeSpec.witness_at (enc:=enc) (C:=Tryz.checked) (os:=os) (X:=fun w _=>laidMetH Tryz.prog Ss w) false (Su os) #[] 8 rfl (by kernel_rfl) (by kernel_rfl) (by kernel_rfl) (by kernel_rfl) (by kernel_rfl) (TF os _)) ?_
 intro W base args ds gs before hval0 hW hcnd hsz hL _;have hval:∀(j:Nat) t v,Tryz.f15.params[j]? = some t->args[j]? = some v->Value.okWide Tryz.prog W .any base t v:=hval0;have hW':=hW;obtain ⟨p,q,hA0,hV,rfl,hfz,hnd⟩:=hW;have hA:DataW.TrodAll enc Tryz.prog W 0 (fun _=>true) true Tryz.f15.params.toList args.toList ds p:=hA0;rw[psL] at hA;have hval:∀(j:Nat) t v,([]:List TypeId)[j]? = some t->args.toList[j]? = some v->Value.okWide Tryz.prog W .any base t v:=fun j t v h1 h2=>hval j t v (by rw[<- Array.getElem?_toList,psL];exact h1) (by rw[<- Array.getElem?_toList];exact h2)
 have r:=hA;obtain ⟨hargs,rfl,rfl⟩:=trodAll_nil r;obtain rfl:args=#[]:=by cases args;simp_all
 obtain ⟨rfl,rfl⟩:=trodVars_none hV;refine(PL hL).mono fun e W' ⟨he,bel⟩=>?_
 subst he;exact⟨_,rfl,_,_,_,[],_,[],hW',trodAll_mk1 (shut_bool un4 _),trodAll_mk0,rfl,bel.frame _,fun h=>by cases h⟩
theorem j1:(Rows.roundKnownRow.inPlace == Tryz.pinned.checked.prog.inPlace 15)=true:=by kernel_rfl
theorem j2:(Rows.roundKnownRow.unfollowed == Tryz.pinned.checked.prog.unfollowed 15)=true:=by kernel_rfl
theorem j3:(Rows.roundKnownRow.recurses == Tryz.pinned.checked.prog.recurses 15)=true:=by kernel_rfl
theorem j4:(Rows.roundKnownRow.named == Tryz.pinned.checked.prog.varsNamed 15)=true:=by kernel_rfl
theorem closed:joinedFacts Tryz.pinned.checked.prog 15 Tryz.f15 Rows.roundKnownSpec Rows.roundKnownRow=true:=by
 unfold joinedFacts;rw[j1,j2,j3,j4];kernel_rfl
theorem zbU:Rows.RoundKnownSaid :=
 OpenClaim.holds_of_wide 15 Tryz.f15 rfl rfl rfl rfl rfl rfl rfl ⟨rfl,rfl,rfl,rfl,rfl⟩ rfl rfl rfl rfl rfl (by kernel_rfl) Tryz.func15 closed
  (zt_ (by kernel_rfl)) (by unfold Func.isWrapper;first | (rw[if_pos (by decide +kernel)];kernel_rfl) | (rw[if_neg (by decide +kernel)];exact⟨rfl,rfl⟩))
  (fun os started H enc _=>lifted os started H enc)
theorem proved:Rows.RoundKnownCardSaid :=
 Claim7.holds_tied_plain_at .later [] [.data] true (true, "f4e39b73c9ac14d2e8fd8a12ac0a5b567e61d23b25d9e4a9d8400f1c83b80bad") false
  zbU (fun _ h=>by cases h) (by kernel_rfl) (fun _ h=>by cases h) roundKnown_row_tie rfl ⟨rfl,rfl⟩ (by kernel_rfl) rfl
  (fun f fn hf hfn=>by
   obtain rfl:f=15:=Option.some.inj ((show Tryz.prog.funcNamed "linkboy/linkboylaw11.RoundKnown"=some 15 by kernel_rfl).symm.trans hf) |>.symm
   obtain rfl:fn=Tryz.f15:=(Option.some.inj (Tryz.func15.symm.trans hfn)).symm;exact⟨by kernel_rfl,fun j t ht=>by
    have hm:t∈[]:=by rw[<- psL];exact Array.mem_toList_iff.2 (Array.mem_of_getElem? ht)
    have hall:([].all fun u=>!Tryz.prog.wantsStandIn u)=true:=by kernel_rfl
    exact(show Tryz.prog.wantsStandIn t=false by simpa using List.all_eq_true.1 hall t hm)⟩)
  (by kernel_rfl)
#print axioms proved
end Go.Proofs.YtdeeekgohhkdbaaGreatDoor.roundKnownDone

/- RoundTimes: Times returns what the document says, for any task, lorry and jobs (at most 40 jobs). The variable of the package that it reads is as the program lays it. -/
import Derived.Test.YtkojpnkknehhmaaGreatDoorYm
import Derived.Test.YtkojpnkknehhmaaGreatDoorOd
import Derived.Test.YtkojpnkknehhmaaGreatDoorCards
import Derived.Test.YtkojpnkknehhmaaGreatDoorTie
namespace Go.Proofs.YtkojpnkknehhmaaGreatDoor.roundTimesDone
open Go.ChangeShapes Go.WideShapes Go.ChangeAt Go.RowKit Go.Proofs.YtkojpnkknehhmaaGreatDoor
theorem own:ownKnob Tryz.prog.godebug=none:=by kernel_rfl
theorem SV:laidOutB Tryz.prog=true:=by kernel_rfl
theorem un4:Tryz.prog.underlying 4=some .bool:=by kernel_rfl
theorem psL:Tryz.f4.params.toList=[31,3,44]:=by kernel_rfl
theorem GR {d:Nat} {cs:List AV} (h:yM Tryz.prog d 44 cs):∃zs:List Int,cs=[.slc 3 (zs.map (AV.int .i64))]:=by
 obtain ⟨zs,e,_⟩:=We (g:=AV.int .i64) (by kernel_rfl) (fun d p hp=>by obtain ⟨x,rfl,_⟩:=XI (k:=.i64) (by kernel_rfl) hp;exact⟨x,by rw[show yf Tryz.prog 3=false by kernel_rfl];rfl⟩) h;exact⟨zs,e⟩
set_option maxRecDepth 100000 in
theorem lifted (os:Os) (started:os.Started) (H:Type) (enc:TypeId × Value->H) :
  ReturnsInHanded {} Tryz.checked os 4 .any (fun w args=>(Rows.roundTimesSpec.pre enc Tryz.prog Tryz.f4 Rows.roundTimesRow.domain false w args/\laidMetH Tryz.prog Pj w)/\sizedMet enc Tryz.prog Tryz.f4 (OpenSpec.ofChange Rows.roundTimesSpec) false w args)
   (Rows.roundTimesSpec.post enc Tryz.prog Tryz.f4 false true false false):=by
 refine returnsInHanded_of_change_and (C:=Tryz.checked) (X:=fun w _=>laidMetH Tryz.prog Pj w) (fun _ _ _ hh h=>h.of_heap hh) own started (by kernel_rfl) Tryz.func4
  (ChangeSpec.witness_at (enc:=enc) (C:=Tryz.checked) (os:=os) (X:=fun w _=>laidMetH Tryz.prog Pj w) false (TS os) #[.agg #[.int .i64 0,.int .i64 0,.int .i64 0,.int .i64 0,.int .i64 0,.int .i64 0,.int .i64 0,.int .i64 0,.int .i64 0,.slice none 0 0,.slice none 0 0,.slice none 0 0,.slice none 0 0],.int .i64 0,.slice none 0 0] 8 rfl (by kernel_rfl) (by kernel_rfl) (by kernel_rfl) (by kernel_rfl) (by kernel_rfl) (Tl os _)) ?_
 intro W base args ds gs before hval0 hW hcnd hsz hL _;have hval:∀(j:Nat) t v,Tryz.f4.params[j]? = some t->args[j]? = some v->Value.okWide Tryz.prog W .any base t v:=hval0;have hW':=hW;obtain ⟨p,q,hA0,hV,rfl,hfz,hnd⟩:=hW;have hA:DataW.TrodAll enc Tryz.prog W 0 (fun _=>true) true Tryz.f4.params.toList args.toList ds p:=hA0;rw[psL] at hA;have hval:∀(j:Nat) t v,([31,3,44]:List TypeId)[j]? = some t->args.toList[j]? = some v->Value.okWide Tryz.prog W .any base t v:=fun j t v h1 h2=>hval j t v (by rw[<- Array.getElem?_toList,psL];exact h1) (by rw[<- Array.getElem?_toList];exact h2)
 have r:=hA;obtain ⟨v0,vs0,d0,ds0,p0,q0,hargs,rfl,rfl,h0,r⟩:=trodAll_cons r;obtain ⟨v1,vs1,d1,ds1,p1,q1,rfl,rfl,rfl,h1,r⟩:=trodAll_cons r;obtain ⟨v2,vs2,d2,ds2,p2,q2,rfl,rfl,rfl,h2,r⟩:=trodAll_cons r;obtain ⟨rfl,rfl,rfl⟩:=trodAll_nil r;obtain rfl:args=#[v0,v1,v2]:=by cases args;simp_all
 obtain ⟨rfl,rfl⟩:=trodVars_none hV;have lt0:∀x∈p0,x.block<W.heap.size:=by obtain ⟨m,hm⟩:=h0;exact DataW.trod_lt m _ _ _ hm
 obtain ⟨_,a0,c0,e0⟩:=WU (D:=8) (by kernel_rfl) h0 (fun n hn=>zt_ (List.all_eq_true.1 hsz n (DataW.weights_mem_each (j:=0) (t:=31) (by kernel_rfl) rfl n hn))) (hval 0 31 v0 rfl rfl);rw[show yf Tryz.prog 31=true by kernel_rfl] at e0;obtain ⟨t,rfl,ht⟩:=zcC c0;have lt1:∀x∈p1,x.block<W.heap.size:=by obtain ⟨m,hm⟩:=h1;exact DataW.trod_lt m _ _ _ hm
 obtain ⟨_,a1,c1,e1⟩:=WU (D:=8) (by kernel_rfl) h1 (fun n hn=>zt_ (List.all_eq_true.1 hsz n (DataW.weights_mem_each (j:=1) (t:=3) (by kernel_rfl) rfl n hn))) (hval 1 3 v1 rfl rfl);rw[show yf Tryz.prog 3=false by kernel_rfl] at e1;obtain ⟨n1,rfl,hn1⟩:=XI (k:=.i64) (by kernel_rfl) c1;have lt2:∀x∈p2,x.block<W.heap.size:=by obtain ⟨m,hm⟩:=h2;exact DataW.trod_lt m _ _ _ hm
 obtain ⟨_,a2,c2,e2⟩:=WU (D:=8) (by kernel_rfl) h2 (fun n hn=>zt_ (List.all_eq_true.1 hsz n (DataW.weights_mem_each (j:=2) (t:=44) (by kernel_rfl) rfl n hn))) (hval 2 44 v2 rfl rfl);rw[show yf Tryz.prog 44=false by kernel_rfl] at e2;obtain ⟨zs2,rfl⟩:=GR c2;have hr:Rvs (kv W) none [t.av,.int .i64 n1,.slc 3 (zs2.map (AV.int .i64))] #[v0,v1,v2]:=⟨rfl,fun j=>by
  match j with
  |0=>exact e0
  |1=>exact e1
  |2=>exact e2
  |j+3=>exact .undef ..⟩
 refine(MT (cL4 t ht n1 zs2) (OH hL) hr).mono fun e W' ⟨he,bel⟩=>?_
 subst he;exact⟨_,rfl,_,_,_,[],_,[],hW',trodAll_mk1 (shut_bool un4 _),(trodAll_cons_mk (Below.trod SV (by kernel_rfl) (zt_ (by kernel_rfl)) h0 bel lt0) (trodAll_cons_mk (Below.trod SV (by kernel_rfl) (zt_ (by kernel_rfl)) h1 bel lt1) (trodAll_cons_mk (Below.trod SV (by kernel_rfl) (zt_ (by kernel_rfl)) h2 bel lt2) trodAll_mk0))),rfl,bel.frame _,fun h=>by cases h⟩
theorem j1:(Rows.roundTimesRow.inPlace == Tryz.pinned.checked.prog.inPlace 4)=true:=by kernel_rfl
theorem j2:(Rows.roundTimesRow.unfollowed == Tryz.pinned.checked.prog.unfollowed 4)=true:=by kernel_rfl
theorem j3:(Rows.roundTimesRow.recurses == Tryz.pinned.checked.prog.recurses 4)=true:=by kernel_rfl
theorem j4:(Rows.roundTimesRow.named == Tryz.pinned.checked.prog.varsNamed 4)=true:=by kernel_rfl
theorem closed:joinedFacts Tryz.pinned.checked.prog 4 Tryz.f4 Rows.roundTimesSpec Rows.roundTimesRow=true:=by
 unfold joinedFacts;rw[j1,j2,j3,j4];kernel_rfl
theorem zcE:Rows.RoundTimesSaid :=
 OpenClaim.holds_of_wide 4 Tryz.f4 rfl rfl rfl rfl rfl rfl rfl ⟨rfl,rfl,rfl,rfl,rfl⟩ rfl rfl rfl rfl rfl (by kernel_rfl) Tryz.func4 closed
  (zt_ (by kernel_rfl)) (by unfold Func.isWrapper;first | (rw[if_pos (by decide +kernel)];kernel_rfl) | (rw[if_neg (by decide +kernel)];exact⟨rfl,rfl⟩))
  (fun os started H enc _=>lifted os started H enc)
theorem proved:Rows.RoundTimesCardSaid :=
 Claim7.holds_tied_plain_at .later [] [.data] true (true, "a5aa35419a5f576a935b452670612b7c2dbeacfc1bfcfd472910529ce3145968") false
  zcE (fun _ h=>by cases h) (by kernel_rfl) (fun _ h=>by cases h) roundTimes_row_tie rfl ⟨rfl,rfl⟩ (by kernel_rfl) rfl
  (fun f fn hf hfn=>by
   obtain rfl:f=4:=Option.some.inj ((show Tryz.prog.funcNamed "linkboy/linkboylaw11.RoundTimes"=some 4 by kernel_rfl).symm.trans hf) |>.symm
   obtain rfl:fn=Tryz.f4:=(Option.some.inj (Tryz.func4.symm.trans hfn)).symm;exact⟨by kernel_rfl,fun j t ht=>by
    have hm:t∈[31,3,44]:=by rw[<- psL];exact Array.mem_toList_iff.2 (Array.mem_of_getElem? ht)
    have hall:([31,3,44].all fun u=>!Tryz.prog.wantsStandIn u)=true:=by kernel_rfl
    exact(show Tryz.prog.wantsStandIn t=false by simpa using List.all_eq_true.1 hall t hm)⟩)
  (by kernel_rfl)
#print axioms proved
end Go.Proofs.YtkojpnkknehhmaaGreatDoor.roundTimesDone

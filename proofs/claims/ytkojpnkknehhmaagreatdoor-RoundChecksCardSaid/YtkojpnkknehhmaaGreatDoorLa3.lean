/- RoundChecks: Check, Travel and Span return what the document says, for any task. The variable of the package that it reads is as the program lays it. -/
import Derived.Test.YtkojpnkknehhmaaGreatDoorYl
import Derived.Test.YtkojpnkknehhmaaGreatDoorOd
import Derived.Test.YtkojpnkknehhmaaGreatDoorCards
import Derived.Test.YtkojpnkknehhmaaGreatDoorTie
namespace Go.Proofs.YtkojpnkknehhmaaGreatDoor.roundChecksDone
open Go.ChangeShapes Go.WideShapes Go.ChangeAt Go.RowKit Go.Proofs.YtkojpnkknehhmaaGreatDoor
theorem own:ownKnob Tryz.prog.godebug=none:=by kernel_rfl
theorem Nh:laidOutB Tryz.prog=true:=by kernel_rfl
theorem un4:Tryz.prog.underlying 4=some .bool:=by kernel_rfl
theorem psL:Tryz.f3.params.toList=[31,32]:=by kernel_rfl
theorem zbF {d:Nat} {cs:List AV} (h:yE Tryz.prog d 32 cs):∃x:Int × Int,cs=[.int .i64 x.1,.int .i64 x.2]:=by
 obtain ⟨d1,ps,rfl,hl,hp⟩:=Qo (n:=2) (e:=3) (by kernel_rfl) h;match ps,hl,hp with
 |[p0,p1],_,hp =>
  obtain ⟨x0,rfl,_⟩:=yw (k:=.i64) (by kernel_rfl) (hp p0 (by simp));obtain ⟨x1,rfl,_⟩:=yw (k:=.i64) (by kernel_rfl) (hp p1 (by simp));exact⟨(x0,x1),rfl⟩
theorem MJ {t:TRoTask} (h:t.Ok):jw t:=by
 obtain ⟨_,_,_,_,_,_,_,hl,hj⟩:=h;exact⟨fun x hx=>(hl.1 x hx).1,fun x hx=>(hj.1 x hx).1⟩
set_option maxRecDepth 100000 in
theorem lifted (os:Os) (started:os.Started) (H:Type) (enc:TypeId × Value->H) :
  ReturnsInHanded {} Tryz.checked os 3 .any (fun w args=>(Rows.roundChecksSpec.pre enc Tryz.prog Tryz.f3 Rows.roundChecksRow.domain false w args/\laidMetH Tryz.prog QT w)/\sizedMet enc Tryz.prog Tryz.f3 (OpenSpec.ofChange Rows.roundChecksSpec) false w args)
   (Rows.roundChecksSpec.post enc Tryz.prog Tryz.f3 false true false false):=by
 refine returnsInHanded_of_change_and (C:=Tryz.checked) (X:=fun w _=>laidMetH Tryz.prog QT w) (fun _ _ _ hh h=>h.of_heap hh) own started (by kernel_rfl) Tryz.func3
  (ChangeSpec.witness_at (enc:=enc) (C:=Tryz.checked) (os:=os) (X:=fun w _=>laidMetH Tryz.prog QT w) false (TC os) #[.agg #[.int .i64 0,.int .i64 0,.int .i64 0,.int .i64 0,.int .i64 0,.int .i64 0,.int .i64 0,.int .i64 0,.int .i64 0,.slice none 0 0,.slice none 0 0,.slice none 0 0,.slice none 0 0],.agg #[.int .i64 0,.int .i64 0]] 8 rfl (by kernel_rfl) (by kernel_rfl) (by kernel_rfl) (by kernel_rfl) (by kernel_rfl) (U5 os _)) ?_
 intro W base args ds gs before hval0 hW hcnd hsz hL _;have hval:∀(j:Nat) t v,Tryz.f3.params[j]? = some t->args[j]? = some v->Value.okWide Tryz.prog W .any base t v:=hval0;have hW':=hW;obtain ⟨p,q,hA0,hV,rfl,hfz,hnd⟩:=hW;have hA:DataW.TrodAll enc Tryz.prog W 0 (fun _=>true) true Tryz.f3.params.toList args.toList ds p:=hA0;rw[psL] at hA;have hval:∀(j:Nat) t v,([31,32]:List TypeId)[j]? = some t->args.toList[j]? = some v->Value.okWide Tryz.prog W .any base t v:=fun j t v h1 h2=>hval j t v (by rw[<- Array.getElem?_toList,psL];exact h1) (by rw[<- Array.getElem?_toList];exact h2)
 have r:=hA;obtain ⟨v0,vs0,d0,ds0,p0,q0,hargs,rfl,rfl,h0,r⟩:=trodAll_cons r;obtain ⟨v1,vs1,d1,ds1,p1,q1,rfl,rfl,rfl,h1,r⟩:=trodAll_cons r;obtain ⟨rfl,rfl,rfl⟩:=trodAll_nil r;obtain rfl:args=#[v0,v1]:=by cases args;simp_all
 obtain ⟨rfl,rfl⟩:=trodVars_none hV;have lt0:∀x∈p0,x.block<W.heap.size:=by obtain ⟨m,hm⟩:=h0;exact DataW.trod_lt m _ _ _ hm
 obtain ⟨_,a0,c0,e0⟩:=S8 (D:=8) (by kernel_rfl) h0 (fun n hn=>zt_ (List.all_eq_true.1 hsz n (DataW.weights_mem_each (j:=0) (t:=31) (by kernel_rfl) rfl n hn))) (hval 0 31 v0 rfl rfl);rw[show yf Tryz.prog 31=true by kernel_rfl] at e0;obtain ⟨t,rfl,ht⟩:=zbA c0;have lt1:∀x∈p1,x.block<W.heap.size:=by obtain ⟨m,hm⟩:=h1;exact DataW.trod_lt m _ _ _ hm
 obtain ⟨_,a1,c1,e1⟩:=S8 (D:=8) (by kernel_rfl) h1 (fun n hn=>zt_ (List.all_eq_true.1 hsz n (DataW.weights_mem_each (j:=1) (t:=32) (by kernel_rfl) rfl n hn))) (hval 1 32 v1 rfl rfl);rw[show yf Tryz.prog 32=true by kernel_rfl] at e1;obtain ⟨y,rfl⟩:=zbF c1;have hr:Rvs (kv W) none [t.av,.agg [.int .i64 y.1,.int .i64 y.2]] #[v0,v1]:=⟨rfl,fun j=>by
  match j with
  |0=>exact e0
  |1=>exact e1
  |j+2=>exact .undef ..⟩
 refine(Mg (cL3 t (MJ ht) y.1 y.2) (P9 hL) hr).mono fun e W' ⟨he,bel⟩=>?_
 subst he;exact⟨_,rfl,_,_,_,[],_,[],hW',trodAll_mk1 (shut_bool un4 _),(trodAll_cons_mk (Below.trod Nh (by kernel_rfl) (zt_ (by kernel_rfl)) h0 bel lt0) (trodAll_cons_mk (Below.trod Nh (by kernel_rfl) (zt_ (by kernel_rfl)) h1 bel lt1) trodAll_mk0)),rfl,bel.frame _,fun h=>by cases h⟩
theorem j1:(Rows.roundChecksRow.inPlace == Tryz.pinned.checked.prog.inPlace 3)=true:=by kernel_rfl
theorem j2:(Rows.roundChecksRow.unfollowed == Tryz.pinned.checked.prog.unfollowed 3)=true:=by kernel_rfl
theorem j3:(Rows.roundChecksRow.recurses == Tryz.pinned.checked.prog.recurses 3)=true:=by kernel_rfl
theorem j4:(Rows.roundChecksRow.named == Tryz.pinned.checked.prog.varsNamed 3)=true:=by kernel_rfl
theorem closed:joinedFacts Tryz.pinned.checked.prog 3 Tryz.f3 Rows.roundChecksSpec Rows.roundChecksRow=true:=by
 unfold joinedFacts;rw[j1,j2,j3,j4];kernel_rfl
theorem zbH:Rows.RoundChecksSaid :=
 OpenClaim.holds_of_wide 3 Tryz.f3 rfl rfl rfl rfl rfl rfl rfl ⟨rfl,rfl,rfl,rfl,rfl⟩ rfl rfl rfl rfl rfl (by kernel_rfl) Tryz.func3 closed
  (zt_ (by kernel_rfl)) (by unfold Func.isWrapper;first | (rw[if_pos (by decide +kernel)];kernel_rfl) | (rw[if_neg (by decide +kernel)];exact⟨rfl,rfl⟩))
  (fun os started H enc _=>lifted os started H enc)
theorem proved:Rows.RoundChecksCardSaid :=
 Claim7.holds_tied_plain_at .later [] [.data] true (true, "a5aa35419a5f576a935b452670612b7c2dbeacfc1bfcfd472910529ce3145968") false
  zbH (fun _ h=>by cases h) (by kernel_rfl) (fun _ h=>by cases h) roundChecks_row_tie rfl ⟨rfl,rfl⟩ (by kernel_rfl) rfl
  (fun f fn hf hfn=>by
   obtain rfl:f=3:=Option.some.inj ((show Tryz.prog.funcNamed "linkboy/linkboylaw11.RoundChecks"=some 3 by kernel_rfl).symm.trans hf) |>.symm
   obtain rfl:fn=Tryz.f3:=(Option.some.inj (Tryz.func3.symm.trans hfn)).symm;exact⟨by kernel_rfl,fun j t ht=>by
    have hm:t∈[31,32]:=by rw[<- psL];exact Array.mem_toList_iff.2 (Array.mem_of_getElem? ht)
    have hall:([31,32].all fun u=>!Tryz.prog.wantsStandIn u)=true:=by kernel_rfl
    exact(show Tryz.prog.wantsStandIn t=false by simpa using List.all_eq_true.1 hall t hm)⟩)
  (by kernel_rfl)
#print axioms proved
end Go.Proofs.YtkojpnkknehhmaaGreatDoor.roundChecksDone

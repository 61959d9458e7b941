/- What comes into the laws, opened: tasks. What a law's premise says of the variable that is laid; a world in which it stands. -/
import Derived.Test.YtkojpnkknehhmaaGreatDoorRb
import Derived.LaidLaws
import Derived.LaidHandle
import Derived.MakeChecks
import Derived.ChangeArms
namespace Go.Proofs.YtkojpnkknehhmaaGreatDoor
open Go.RowKit
abbrev CT (d:Nat) (t:TypeId) (p:List AV):Prop:=yM Tryz.prog d t p
theorem opI {d:Nat} {p:List AV} (h:CT d 3 p):∃x:Int,p=[.int .i64 x]:=by
 obtain ⟨x,e,_⟩:=XI (k:=.i64) (by kernel_rfl) h;exact⟨x,e⟩
theorem opS {d:Nat} {p:List AV} (h:CT d 9 p):∃x:ByteArray,p=[.str x]/\x.size<=9223372036854775807:=by
 obtain ⟨x,e,h⟩:=SF (by kernel_rfl) h;exact⟨x,e,h⟩
theorem opL {α:Type} {g:α->List AV} {w:α->Prop} {d:Nat} {t e:TypeId} {p:List AV} (hu:Tryz.prog.underlying t=some (.slice e)) (ha:yf Tryz.prog e=true) (hg:∀d p,CT d e p->∃x,p=g x/\w x) (h:CT d t p):∃xs:List α,p=[.slc 3 (xs.map fun x=>.agg (g x))]/\∀x∈xs,w x:=by
 obtain ⟨xs,e1,_,_,h⟩:=SE (g:=fun x=>AV.agg (g x)) (w:=w) hu (fun d p hp=>by
  obtain ⟨x,rfl,hx⟩:=hg d p hp;exact⟨x,by rw[if_pos ha],hx⟩) h
 exact⟨xs,e1,h⟩
theorem Jc {d:Nat} {t:TypeId} {p:List AV} (hu:X8 Tryz.prog t=some [3,3]) (h:CT d t p):∃x y:Int,p=[.int .i64 x,.int .i64 y]:=by
 obtain ⟨d1,ps,rfl,hl,hp⟩:=ka hu h;match ps,hl with
 |[p0,p1],_ =>
  obtain ⟨x0,rfl⟩:=opI (show CT _ _ p0 from hp 0 _ rfl);obtain ⟨x1,rfl⟩:=opI (show CT _ _ p1 from hp 1 _ rfl);exact⟨x0,x1,rfl⟩
theorem GQ {d:Nat} {p:List AV} (h:CT d 25 p):∃x:TSnCity,p=x.cs:=by
 obtain ⟨d1,ps,rfl,hl,hp⟩:=ka (tys:=[3,3,3,23]) (by kernel_rfl) h;match ps,hl with
 |[p0,p1,p2,p3],_ =>
  obtain ⟨x0,rfl⟩:=opI (show CT _ _ p0 from hp 0 _ rfl);obtain ⟨x1,rfl⟩:=opI (show CT _ _ p1 from hp 1 _ rfl);obtain ⟨x2,rfl⟩:=opI (show CT _ _ p2 from hp 2 _ rfl);obtain ⟨x3,x4,rfl⟩:=Jc (by kernel_rfl) (show CT _ 23 p3 from hp 3 _ rfl);exact⟨⟨x0,x1,x2,⟨x3,x4⟩⟩,rfl⟩
theorem zag (d:Nat) (p:List AV) (h:CT d 75 p):∃x:TRoLorry,p=x.cs/\x.Name.size<=9223372036854775807:=by
 obtain ⟨d1,ps,rfl,hl,hp⟩:=ka (tys:=[9,3,3,3,3,3]) (by kernel_rfl) h;match ps,hl with
 |[p0,p1,p2,p3,p4,p5],_ =>
  obtain ⟨x0,rfl,h0⟩:=opS (show CT _ _ p0 from hp 0 _ rfl);obtain ⟨x1,rfl⟩:=opI (show CT _ _ p1 from hp 1 _ rfl);obtain ⟨x2,rfl⟩:=opI (show CT _ _ p2 from hp 2 _ rfl);obtain ⟨x3,rfl⟩:=opI (show CT _ _ p3 from hp 3 _ rfl);obtain ⟨x4,rfl⟩:=opI (show CT _ _ p4 from hp 4 _ rfl);obtain ⟨x5,rfl⟩:=opI (show CT _ _ p5 from hp 5 _ rfl);exact⟨⟨x0,x1,x2,x3,x4,x5⟩,rfl,h0⟩
theorem zaf (d:Nat) (p:List AV) (h:CT d 80 p):∃x:TRoJob,p=x.cs/\x.Name.size<=9223372036854775807:=by
 obtain ⟨d1,ps,rfl,hl,hp⟩:=ka (tys:=[9,3,3,3,3,44,3,4,3]) (by kernel_rfl) h;match ps,hl with
 |[p0,p1,p2,p3,p4,p5,p6,p7,p8],_ =>
  obtain ⟨x0,rfl,h0⟩:=opS (show CT _ _ p0 from hp 0 _ rfl);obtain ⟨x1,rfl⟩:=opI (show CT _ _ p1 from hp 1 _ rfl);obtain ⟨x2,rfl⟩:=opI (show CT _ _ p2 from hp 2 _ rfl);obtain ⟨x3,rfl⟩:=opI (show CT _ _ p3 from hp 3 _ rfl);obtain ⟨x4,rfl⟩:=opI (show CT _ _ p4 from hp 4 _ rfl);obtain ⟨x5,rfl,_⟩:=We (g:=AV.int .i64) (by kernel_rfl) (fun d p hp=>by
   obtain ⟨x,rfl⟩:=opI hp;exact⟨x,by rw[show yf Tryz.prog 3=false by kernel_rfl,if_neg (by simp)];rfl⟩) (show CT _ 44 p5 from hp 5 _ rfl)
  obtain ⟨x6,rfl⟩:=opI (show CT _ _ p6 from hp 6 _ rfl);obtain ⟨x7,rfl⟩:=Of (by kernel_rfl) (show CT _ _ p7 from hp 7 _ rfl);obtain ⟨x8,rfl⟩:=opI (show CT _ _ p8 from hp 8 _ rfl);exact⟨⟨x0,x1,x2,x3,x4,x5,x6,x7,x8⟩,rfl,h0⟩
theorem zcC {d:Nat} {p:List AV} (h:CT d 31 p):∃x:TRoTask,p=x.cs/\jw x:=by
 obtain ⟨d1,ps,rfl,hl,hp⟩:=ka (tys:=[25,3,3,3,3,26,27,28,29]) (by kernel_rfl) h;match ps,hl with
 |[p0,p1,p2,p3,p4,p5,p6,p7,p8],_ =>
  obtain ⟨x0,rfl⟩:=GQ (show CT _ _ p0 from hp 0 _ rfl);obtain ⟨x1,rfl⟩:=opI (show CT _ _ p1 from hp 1 _ rfl);obtain ⟨x2,rfl⟩:=opI (show CT _ _ p2 from hp 2 _ rfl);obtain ⟨x3,rfl⟩:=opI (show CT _ _ p3 from hp 3 _ rfl);obtain ⟨x4,rfl⟩:=opI (show CT _ _ p4 from hp 4 _ rfl);obtain ⟨x5,rfl,_⟩:=opL (e:=68) (g:=TRoKind.cs) (w:=fun _=>True) (by kernel_rfl) (by kernel_rfl) (fun d p hp=>by obtain ⟨a,b,rfl⟩:=Jc (by kernel_rfl) hp;exact⟨⟨a,b⟩,rfl,trivial⟩) (show CT _ 26 p5 from hp 5 _ rfl);obtain ⟨x6,rfl,_⟩:=opL (e:=39) (g:=TRoSpan.cs) (w:=fun _=>True) (by kernel_rfl) (by kernel_rfl) (fun d p hp=>by obtain ⟨a,b,rfl⟩:=Jc (by kernel_rfl) hp;exact⟨⟨a,b⟩,rfl,trivial⟩) (show CT _ 27 p6 from hp 6 _ rfl);obtain ⟨x7,rfl,h7⟩:=opL (e:=75) (g:=TRoLorry.cs) (by kernel_rfl) (by kernel_rfl) zag (show CT _ 28 p7 from hp 7 _ rfl);obtain ⟨x8,rfl,h8⟩:=opL (e:=80) (g:=TRoJob.cs) (by kernel_rfl) (by kernel_rfl) zaf (show CT _ 29 p8 from hp 8 _ rfl);exact⟨⟨x0,x1,x2,x3,x4,x5,x6,x7,x8⟩,rfl,⟨h7,h8⟩⟩
abbrev Pj:List (String × DataW Unit):=[("linkboy/round.never", Rows.laid_linkboy_round_never)]
theorem KF:Tryz.prog.globalNamed "linkboy/round.never"=some 0:=by kernel_rfl
theorem G4:(Tryz.prog.globals[0]?).map (·.type)=some 39:=by kernel_rfl
theorem Ls {l:List Value} {a b:Value} (h:l.length=2) (h0:(l.drop 0).take 1=[a]) (h1:(l.drop 1).take 1=[b]):l=[a,b]:=by
 match l,h,h0,h1 with
 |[x,y],_,h0,h1 =>
  have h0:[x]=[a]:=h0;have h1:[y]=[b]:=h1;rw[(List.cons.inj h0).1,(List.cons.inj h1).1]
theorem OH {W:World} (h:laidMetH Tryz.prog Pj W):kJ (kv W):=by
 rw[MakeChecks.laidMetH_plain _ _ _ (by kernel_rfl)] at h;obtain ⟨ps,⟨g0,t0,cs0,f0,p0,q0,hg0,ht0,hv0,hd0,_,_⟩,_,_⟩:=h;obtain rfl:=Option.some.inj (KF.symm.trans hg0);obtain rfl:=Option.some.inj (G4.symm.trans ht0);have hu:=Tryz.underlying39;have hi:Tryz.prog.underlying 3=some (.int .i64):=by kernel_rfl
 have c1:Tryz.prog.cellsOf 3=1:=by kernel_rfl
 have c2:Tryz.prog.cellsOf 39=2:=by kernel_rfl
 obtain ⟨xs,n,rfl,hx,hl,hn,hel⟩:=DataW.trod_struct hu hd0;have e0:DataW.trod (fun _=>()) Tryz.prog W 0 (fun _=>true) false n 3 ((cs0.toList.drop 0).take (Tryz.prog.cellsOf 3))=xs[0]?:=hel 0 _ rfl;have e1:DataW.trod (fun _=>()) Tryz.prog W 0 (fun _=>true) false n 3 ((cs0.toList.drop 1).take (Tryz.prog.cellsOf 3))=xs[1]?:=hel 1 _ rfl;have hxs:xs.map (·.1)=[.lit (.int .i64 1),.lit (.int .i64 0)]:=by
  have:=(Prod.mk.inj hx).1;exact(DataW.agg.inj this).symm
 match xs,hn,hxs,e0,e1 with
 |[x0,x1],_,hxs,e0,e1 =>
  obtain ⟨k0,s0,t0,_⟩:=DataW.trod_int (x:=x0) hi e0;obtain ⟨k1,s1,t1,_⟩:=DataW.trod_int (x:=x1) hi e1;subst t0;subst t1;simp only[List.map_cons,List.map_nil,List.cons.injEq,DataW.lit.injEq,Lit.int.injEq,true_and,and_true] at hxs;obtain ⟨rfl,rfl⟩:=hxs;rw[c1] at s0 s1;rw[c2] at hl;have hc:cs0=#[Value.int .i64 1,Value.int .i64 0]:=by
   have:=Ls hl s0 s1;exact Array.toList_inj.1 this
  subst hc;clear hd0 hel e0 e1 hx hl s0 s1;intro g cs hg;unfold Up at hg;split at hg
  case isFalse=>cases hg
  rename_i hg0;subst hg0;cases hg;refine⟨fun j=>if j=0 then .int .i64 1 else .int .i64 0,fun j hj=>?_,fun j=>?_⟩
  ·have:=World.var?_cell KF hv0 j;match j,hj with
   |0,_=>exact uJ this
   |1,_=>exact uJ this
  ·match j with
   |0=>exact .int _ _ _
   |1=>exact .int _ _ _
   |j+2=>exact .undef _ _
noncomputable def TS (os:Os):World :=
 let w0:=World.holding Tryz.prog os ⟨#[],#[],[]⟩
 {w0 with heap:=w0.heap.modify 0 fun
   |.cells _ t frozen=>.cells #[.int .i64 1,.int .i64 0] t frozen
   |o=>o }
theorem Tl (os:Os) (args:Array Value):laidMetH Tryz.prog Pj ((TS os).forCall (fun _ _=>0) ⟨#[],args,[]⟩).memory:=by
 rw[MakeChecks.laidMetH_plain _ _ _ (by kernel_rfl)];exact laidMet_of_run' 8 (by kernel_rfl) (by kernel_rfl)
end Go.Proofs.YtkojpnkknehhmaaGreatDoor

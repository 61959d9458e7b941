/- What a law's premise says of the variable that is laid; a world in which it stands. -/
import Derived.Test.YtdeeekgohhkdbaaGreatDoorFr
import Derived.Test.YtdeeekgohhkdbaaGreatDoorT
import Derived.Test.YtdeeekgohhkdbaaGreatDoorRows
import Derived.LaidLaws
import Derived.LaidHandle
import Derived.MakeChecks
import Derived.ChangeArms
namespace Go.Proofs.YtdeeekgohhkdbaaGreatDoor
open Go.RowKit
abbrev laidN:List (String × DataW Unit):=[("linkboy/round.never", Rows.laid_linkboy_round_never)]
theorem gNever:Tryz.prog.globalNamed "linkboy/round.never" = some 0:=by kernel_rfl
theorem tNever:(Tryz.prog.globals[0]?).map (·.type) = some 60:=by kernel_rfl
theorem two_cells {l:List Value} {a b:Value} (h:l.length = 2) (h0:(l.drop 0).take 1 = [a]) (h1:(l.drop 1).take 1 = [b]):l = [a,b]:=by
 match l,h,h0,h1 with
 | [x,y],_,h0,h1 =>
  have h0:[x] = [a]:=h0
  have h1:[y] = [b]:=h1
  rw [(List.cons.inj h0).1,(List.cons.inj h1).1]
theorem laid_globs {W:World} (h:laidMetH Tryz.prog laidN W):GlobOK (ofHeap W):=by
 rw [MakeChecks.laidMetH_plain _ _ _ (by kernel_rfl)] at h
 obtain ⟨ps,⟨g0,t0,cs0,f0,p0,q0,hg0,ht0,hv0,hd0,_,_⟩,_,_⟩:=h
 obtain rfl:=Option.some.inj (gNever.symm.trans hg0)
 obtain rfl:=Option.some.inj (tNever.symm.trans ht0)
 have hu:=Tryz.underlying60
 have hi:Tryz.prog.underlying 3 = some (.int .i64):=by kernel_rfl
 have c1:Tryz.prog.cellsOf 3 = 1:=by kernel_rfl
 have c2:Tryz.prog.cellsOf 60 = 2:=by kernel_rfl
 obtain ⟨xs,n,rfl,hx,hl,hn,hel⟩:=DataW.trod_struct hu hd0
 have e0:DataW.trod (fun _ => ()) Tryz.prog W 0 (fun _ => true) false n 3 ((cs0.toList.drop 0).take (Tryz.prog.cellsOf 3)) = xs[0]?:=hel 0 _ rfl
 have e1:DataW.trod (fun _ => ()) Tryz.prog W 0 (fun _ => true) false n 3 ((cs0.toList.drop 1).take (Tryz.prog.cellsOf 3)) = xs[1]?:=hel 1 _ rfl
 have hxs:xs.map (·.1) = [.lit (.int .i64 1),.lit (.int .i64 0)]:=by
  have:=(Prod.mk.inj hx).1
  exact (DataW.agg.inj this).symm
 match xs,hn,hxs,e0,e1 with
 | [x0,x1],_,hxs,e0,e1 =>
  obtain ⟨k0,s0,t0,_⟩:=DataW.trod_int (x:=x0) hi e0
  obtain ⟨k1,s1,t1,_⟩:=DataW.trod_int (x:=x1) hi e1
  subst t0; subst t1
  simp only [List.map_cons,List.map_nil,List.cons.injEq,DataW.lit.injEq,Lit.int.injEq,true_and,and_true] at hxs
  obtain ⟨rfl,rfl⟩:=hxs
  rw [c1] at s0 s1
  rw [c2] at hl
  have hc:cs0 = #[Value.int .i64 1,Value.int .i64 0]:=by
   have:=two_cells hl s0 s1
   exact Array.toList_inj.1 this
  subst hc
  clear hd0 hel e0 e1 hx hl s0 s1
  intro g cs hg
  unfold globA at hg
  split at hg
  case isFalse => cases hg
  rename_i hg0
  subst hg0
  cases hg
  refine ⟨fun j => if j = 0 then .int .i64 1 else .int .i64 0,fun j hj => ?_,fun j => ?_⟩
  ·have:=World.var?_cell gNever hv0 j
   match j,hj with
   | 0,_ => exact ofHeap_cell this
   | 1,_ => exact ofHeap_cell this
  ·match j with
   | 0 => exact .int _ _ _
   | 1 => exact .int _ _ _
   | j + 2 => exact .undef _ _
noncomputable def laidWorld (os:Os):World :=
 let w0:=World.holding Tryz.prog os ⟨#[],#[],[]⟩
 {w0 with heap:=w0.heap.modify 0 fun
   | .cells _ t frozen => .cells #[.int .i64 1,.int .i64 0] t frozen
   | o => o }
theorem laidWorld_met (os:Os) (args:Array Value):laidMetH Tryz.prog laidN ((laidWorld os).forCall (fun _ _ => 0) ⟨#[],args,[]⟩).memory:=by
 rw [MakeChecks.laidMetH_plain _ _ _ (by kernel_rfl)]
 exact laidMet_of_run' 8 (by kernel_rfl) (by kernel_rfl)
end Go.Proofs.YtdeeekgohhkdbaaGreatDoor

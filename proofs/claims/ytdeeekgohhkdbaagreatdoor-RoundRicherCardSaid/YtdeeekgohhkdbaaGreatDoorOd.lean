/- What comes into the laws, opened (printed by gen.lean): programmes. What a law's premise says of the variable that is laid; a world in which it stands. -/
import Derived.Test.YtdeeekgohhkdbaaGreatDoorFr
import Derived.Test.YtdeeekgohhkdbaaGreatDoorT
import Derived.Test.YtdeeekgohhkdbaaGreatDoorRows
import Derived.LaidLaws
import Derived.LaidHandle
import Derived.MakeChecks
import Derived.ChangeArms
namespace Go.Proofs.YtdeeekgohhkdbaaGreatDoor
open Go.RowKit
def InK (k:IntKind) (n:Int):Prop:=(Lit.int k n).wf = true
def TRoAsset.Ok (x:TRoAsset):Prop:=(x.Name.size ≤ maxLen) ∧ (InK .i64 x.Cost) ∧ (InK .i64 x.Rate) ∧ (InK .i64 x.Harm) ∧ (InK .i64 x.Last)
theorem op73 {d:Nat} {cs:List AV} (h:CellsT Tryz.prog d 73 cs):∃ x:TRoAsset,cs = x.cs ∧ x.Ok:=by
 obtain ⟨d1,ps,rfl,hl,hp⟩:=cells_struct (tys:=[9,3,3,3,3]) (by kernel_rfl) h
 match ps,hl with
 | [p0,p1,p2,p3,p4],_ =>
  obtain ⟨x0,ex0,hx0⟩:=cells_string (by kernel_rfl) (hp 0 _ rfl)
  have ex0:p0 = _:=ex0
  subst ex0
  obtain ⟨x1,ex1,hx1⟩:=cells_int (k:=.i64) (by kernel_rfl) (hp 1 _ rfl)
  have ex1:p1 = _:=ex1
  subst ex1
  obtain ⟨x2,ex2,hx2⟩:=cells_int (k:=.i64) (by kernel_rfl) (hp 2 _ rfl)
  have ex2:p2 = _:=ex2
  subst ex2
  obtain ⟨x3,ex3,hx3⟩:=cells_int (k:=.i64) (by kernel_rfl) (hp 3 _ rfl)
  have ex3:p3 = _:=ex3
  subst ex3
  obtain ⟨x4,ex4,hx4⟩:=cells_int (k:=.i64) (by kernel_rfl) (hp 4 _ rfl)
  have ex4:p4 = _:=ex4
  subst ex4
  exact ⟨⟨x0,x1,x2,x3,x4⟩,rfl,hx0,hx1,hx2,hx3,hx4⟩
def TRoProgramme.Ok (x:TRoProgramme):Prop:=((∀ y ∈ x.Assets,y.Ok) ∧ x.Assets.length ≤ maxLen ∧ x.Assets.length * 48 ≤ reachBytes) ∧ ((∀ y ∈ x.Budgets,InK .i64 y) ∧ x.Budgets.length ≤ maxLen ∧ x.Budgets.length * 8 ≤ reachBytes) ∧ (InK .i64 x.First) ∧ (InK .i64 x.Days)
theorem op66 {d:Nat} {cs:List AV} (h:CellsT Tryz.prog d 66 cs):∃ x:TRoProgramme,cs = x.cs ∧ x.Ok:=by
 obtain ⟨d1,ps,rfl,hl,hp⟩:=cells_struct (tys:=[64,41,3,3]) (by kernel_rfl) h
 match ps,hl with
 | [p0,p1,p2,p3],_ =>
  obtain ⟨x0,ex0,kx0,lx0,mx0⟩:=cells_sliceR (g:=TRoAsset.av) (w:=fun y => y.Ok) (by kernel_rfl) (fun d p hp => by obtain ⟨x0i,ex0i,hx0i⟩:=op73 hp; subst ex0i; exact ⟨x0i,by rw [if_pos (show isAggT Tryz.prog 73 = true by kernel_rfl)]; rfl,hx0i⟩) (hp 0 _ rfl); have hx0:=And.intro mx0 (And.intro kx0 (show x0.length * 48 ≤ reachBytes by rw [show Tryz.prog.bytesOf 73 = 48 by kernel_rfl] at lx0; exact lx0))
  have ex0:p0 = _:=ex0
  subst ex0
  obtain ⟨x1,ex1,kx1,lx1,mx1⟩:=cells_sliceR (g:=(AV.int .i64)) (w:=fun y => InK .i64 y) (by kernel_rfl) (fun d p hp => by obtain ⟨x1i,ex1i,hx1i⟩:=cells_int (k:=.i64) (by kernel_rfl) hp; subst ex1i; exact ⟨x1i,by rw [show isAggT Tryz.prog 3 = false by kernel_rfl]; rfl,hx1i⟩) (hp 1 _ rfl); have hx1:=And.intro mx1 (And.intro kx1 (show x1.length * 8 ≤ reachBytes by rw [show Tryz.prog.bytesOf 3 = 8 by kernel_rfl] at lx1; exact lx1))
  have ex1:p1 = _:=ex1
  subst ex1
  obtain ⟨x2,ex2,hx2⟩:=cells_int (k:=.i64) (by kernel_rfl) (hp 2 _ rfl)
  have ex2:p2 = _:=ex2
  subst ex2
  obtain ⟨x3,ex3,hx3⟩:=cells_int (k:=.i64) (by kernel_rfl) (hp 3 _ rfl)
  have ex3:p3 = _:=ex3
  subst ex3
  exact ⟨⟨x0,x1,x2,x3⟩,rfl,hx0,hx1,hx2,hx3⟩
end Go.Proofs.YtdeeekgohhkdbaaGreatDoor
namespace Go.Proofs.YtdeeekgohhkdbaaGreatDoor
open Go.RowKit
abbrev laidN:List (String × DataW Unit):=[("linkboy/round.never", Rows.laid_linkboy_round_never)]
theorem gNever:Tryz.prog.globalNamed "linkboy/round.never" = some 0:=by kernel_rfl
theorem tNever:(Tryz.prog.globals[0]?).map (·.type) = some 60:=by kernel_rfl
theorem two_cells {l:List Value} {a b:Value} (h:l.length = 2) (h0:(l.drop 0).take 1 = [a]) (h1:(l.drop 1).take 1 = [b]):l = [a,b]:=by
 match l,h,h0,h1 with
 | [x,y],_,h0,h1 =>
  have h0:[x] = [a]:=h0
  have h1:[y] = [b]:=h1
  rw [(List.cons.inj h0).1,(List.cons.inj h1).1]
theorem laid_globs {W:World} (h:laidMetH Tryz.prog laidN W):GlobOK (ofHeap W):=by
 rw [MakeChecks.laidMetH_plain _ _ _ (by kernel_rfl)] at h
 obtain ⟨ps,⟨g0,t0,cs0,f0,p0,q0,hg0,ht0,hv0,hd0,_,_⟩,_,_⟩:=h
 obtain rfl:=Option.some.inj (gNever.symm.trans hg0)
 obtain rfl:=Option.some.inj (tNever.symm.trans ht0)
 have hu:=Tryz.underlying60
 have hi:Tryz.prog.underlying 3 = some (.int .i64):=by kernel_rfl
 have c1:Tryz.prog.cellsOf 3 = 1:=by kernel_rfl
 have c2:Tryz.prog.cellsOf 60 = 2:=by kernel_rfl
 obtain ⟨xs,n,rfl,hx,hl,hn,hel⟩:=DataW.trod_struct hu hd0
 have e0:DataW.trod (fun _ => ()) Tryz.prog W 0 (fun _ => true) false n 3 ((cs0.toList.drop 0).take (Tryz.prog.cellsOf 3)) = xs[0]?:=hel 0 _ rfl
 have e1:DataW.trod (fun _ => ()) Tryz.prog W 0 (fun _ => true) false n 3 ((cs0.toList.drop 1).take (Tryz.prog.cellsOf 3)) = xs[1]?:=hel 1 _ rfl
 have hxs:xs.map (·.1) = [.lit (.int .i64 1),.lit (.int .i64 0)]:=by
  have:=(Prod.mk.inj hx).1
  exact (DataW.agg.inj this).symm
 match xs,hn,hxs,e0,e1 with
 | [x0,x1],_,hxs,e0,e1 =>
  obtain ⟨k0,s0,t0,_⟩:=DataW.trod_int (x:=x0) hi e0
  obtain ⟨k1,s1,t1,_⟩:=DataW.trod_int (x:=x1) hi e1
  subst t0; subst t1
  simp only [List.map_cons,List.map_nil,List.cons.injEq,DataW.lit.injEq,Lit.int.injEq,true_and,and_true] at hxs
  obtain ⟨rfl,rfl⟩:=hxs
  rw [c1] at s0 s1
  rw [c2] at hl
  have hc:cs0 = #[Value.int .i64 1,Value.int .i64 0]:=by
   have:=two_cells hl s0 s1
   exact Array.toList_inj.1 this
  subst hc
  clear hd0 hel e0 e1 hx hl s0 s1
  intro g cs hg
  unfold globA at hg
  split at hg
  case isFalse => cases hg
  rename_i hg0
  subst hg0
  cases hg
  refine ⟨fun j => if j = 0 then .int .i64 1 else .int .i64 0,fun j hj => ?_,fun j => ?_⟩
  ·have:=World.var?_cell gNever hv0 j
   match j,hj with
   | 0,_ => exact ofHeap_cell this
   | 1,_ => exact ofHeap_cell this
  ·match j with
   | 0 => exact .int _ _ _
   | 1 => exact .int _ _ _
   | j + 2 => exact .undef _ _
noncomputable def laidWorld (os:Os):World :=
 let w0:=World.holding Tryz.prog os ⟨#[],#[],[]⟩
 {w0 with heap:=w0.heap.modify 0 fun
   | .cells _ t frozen => .cells #[.int .i64 1,.int .i64 0] t frozen
   | o => o }
theorem laidWorld_met (os:Os) (args:Array Value):laidMetH Tryz.prog laidN ((laidWorld os).forCall (fun _ _ => 0) ⟨#[],args,[]⟩).memory:=by
 rw [MakeChecks.laidMetH_plain _ _ _ (by kernel_rfl)]
 exact laidMet_of_run' 8 (by kernel_rfl) (by kernel_rfl)
end Go.Proofs.YtdeeekgohhkdbaaGreatDoor

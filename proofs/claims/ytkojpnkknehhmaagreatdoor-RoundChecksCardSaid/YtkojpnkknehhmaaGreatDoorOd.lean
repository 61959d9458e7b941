/- What comes into the laws, opened (printed by gen.lean): tasks. What a law's premise says of the variable that is laid; a world in which it stands. -/
import Derived.Test.YtkojpnkknehhmaaGreatDoorT
import Derived.LaidLaws
import Derived.LaidHandle
import Derived.MakeChecks
import Derived.ChangeArms
namespace Go.Proofs.YtkojpnkknehhmaaGreatDoor
open Go.RowKit
def InK (k:IntKind) (n:Int):Prop:=(Lit.int k n).wf=true
def TEncl.Ok (x:TEncl):Prop:=(InK .i64 x.Lo)/\(InK .i64 x.Hi)
theorem zby {d:Nat} {cs:List AV} (h:yE Tryz.prog d 23 cs):∃x:TEncl,cs=x.cs/\x.Ok:=by
 obtain ⟨d1,ps,rfl,hl,hp⟩:=jc (tys:=[3,3]) (by kernel_rfl) h;match ps,hl with
 |[p0,p1],_ =>
  obtain ⟨x0,ex0,hx0⟩:=yw (k:=.i64) (by kernel_rfl) (hp 0 _ rfl);have ex0:p0=_:=ex0;subst ex0;obtain ⟨x1,ex1,hx1⟩:=yw (k:=.i64) (by kernel_rfl) (hp 1 _ rfl);have ex1:p1=_:=ex1;subst ex1;exact⟨⟨x0,x1⟩,rfl,hx0,hx1⟩
def TSnCity.Ok (x:TSnCity):Prop:=(InK .i64 x.Lat)/\(InK .i64 x.Lon)/\(InK .i64 x.Zone)/\(x.Altitude.Ok)
theorem zbz {d:Nat} {cs:List AV} (h:yE Tryz.prog d 25 cs):∃x:TSnCity,cs=x.cs/\x.Ok:=by
 obtain ⟨d1,ps,rfl,hl,hp⟩:=jc (tys:=[3,3,3,23]) (by kernel_rfl) h;match ps,hl with
 |[p0,p1,p2,p3],_ =>
  obtain ⟨x0,ex0,hx0⟩:=yw (k:=.i64) (by kernel_rfl) (hp 0 _ rfl);have ex0:p0=_:=ex0;subst ex0;obtain ⟨x1,ex1,hx1⟩:=yw (k:=.i64) (by kernel_rfl) (hp 1 _ rfl);have ex1:p1=_:=ex1;subst ex1;obtain ⟨x2,ex2,hx2⟩:=yw (k:=.i64) (by kernel_rfl) (hp 2 _ rfl);have ex2:p2=_:=ex2;subst ex2;obtain ⟨x3,ex3,hx3⟩:=zby (hp 3 _ rfl);have ex3:p3=_:=ex3;subst ex3;exact⟨⟨x0,x1,x2,x3⟩,rfl,hx0,hx1,hx2,hx3⟩
def TRoKind.Ok (x:TRoKind):Prop:=(InK .i64 x.Size)/\(InK .i64 x.Price)
theorem zbC {d:Nat} {cs:List AV} (h:yE Tryz.prog d 68 cs):∃x:TRoKind,cs=x.cs/\x.Ok:=by
 obtain ⟨d1,ps,rfl,hl,hp⟩:=jc (tys:=[3,3]) (by kernel_rfl) h;match ps,hl with
 |[p0,p1],_ =>
  obtain ⟨x0,ex0,hx0⟩:=yw (k:=.i64) (by kernel_rfl) (hp 0 _ rfl);have ex0:p0=_:=ex0;subst ex0;obtain ⟨x1,ex1,hx1⟩:=yw (k:=.i64) (by kernel_rfl) (hp 1 _ rfl);have ex1:p1=_:=ex1;subst ex1;exact⟨⟨x0,x1⟩,rfl,hx0,hx1⟩
def TRoSpan.Ok (x:TRoSpan):Prop:=(InK .i64 x.From)/\(InK .i64 x.Until)
theorem zbB {d:Nat} {cs:List AV} (h:yE Tryz.prog d 39 cs):∃x:TRoSpan,cs=x.cs/\x.Ok:=by
 obtain ⟨d1,ps,rfl,hl,hp⟩:=jc (tys:=[3,3]) (by kernel_rfl) h;match ps,hl with
 |[p0,p1],_ =>
  obtain ⟨x0,ex0,hx0⟩:=yw (k:=.i64) (by kernel_rfl) (hp 0 _ rfl);have ex0:p0=_:=ex0;subst ex0;obtain ⟨x1,ex1,hx1⟩:=yw (k:=.i64) (by kernel_rfl) (hp 1 _ rfl);have ex1:p1=_:=ex1;subst ex1;exact⟨⟨x0,x1⟩,rfl,hx0,hx1⟩
def TRoLorry.Ok (x:TRoLorry):Prop:=(x.Name.size<=maxLen)/\(InK .i64 x.Lift)/\(InK .i64 x.Room)/\(InK .i64 x.From)/\(InK .i64 x.Until)/\(InK .i64 x.PerHour)
theorem zbD {d:Nat} {cs:List AV} (h:yE Tryz.prog d 75 cs):∃x:TRoLorry,cs=x.cs/\x.Ok:=by
 obtain ⟨d1,ps,rfl,hl,hp⟩:=jc (tys:=[9,3,3,3,3,3]) (by kernel_rfl) h;match ps,hl with
 |[p0,p1,p2,p3,p4,p5],_ =>
  obtain ⟨x0,ex0,hx0⟩:=Y1 (by kernel_rfl) (hp 0 _ rfl);have ex0:p0=_:=ex0;subst ex0;obtain ⟨x1,ex1,hx1⟩:=yw (k:=.i64) (by kernel_rfl) (hp 1 _ rfl);have ex1:p1=_:=ex1;subst ex1;obtain ⟨x2,ex2,hx2⟩:=yw (k:=.i64) (by kernel_rfl) (hp 2 _ rfl);have ex2:p2=_:=ex2;subst ex2;obtain ⟨x3,ex3,hx3⟩:=yw (k:=.i64) (by kernel_rfl) (hp 3 _ rfl);have ex3:p3=_:=ex3;subst ex3;obtain ⟨x4,ex4,hx4⟩:=yw (k:=.i64) (by kernel_rfl) (hp 4 _ rfl);have ex4:p4=_:=ex4;subst ex4;obtain ⟨x5,ex5,hx5⟩:=yw (k:=.i64) (by kernel_rfl) (hp 5 _ rfl);have ex5:p5=_:=ex5;subst ex5;exact⟨⟨x0,x1,x2,x3,x4,x5⟩,rfl,hx0,hx1,hx2,hx3,hx4,hx5⟩
def TRoJob.Ok (x:TRoJob):Prop:=(x.Name.size<=maxLen)/\(InK .i64 x.X)/\(InK .i64 x.Y)/\(InK .i64 x.Height)/\(InK .i64 x.Seconds)/\((∀y∈x.Parts,InK .i64 y)/\x.Parts.length<=maxLen/\x.Parts.length*8<=reachBytes)/\(InK .i64 x.Closure)/\(True)/\(InK .i64 x.Value)
theorem zbE {d:Nat} {cs:List AV} (h:yE Tryz.prog d 80 cs):∃x:TRoJob,cs=x.cs/\x.Ok:=by
 obtain ⟨d1,ps,rfl,hl,hp⟩:=jc (tys:=[9,3,3,3,3,44,3,4,3]) (by kernel_rfl) h;match ps,hl with
 |[p0,p1,p2,p3,p4,p5,p6,p7,p8],_ =>
  obtain ⟨x0,ex0,hx0⟩:=Y1 (by kernel_rfl) (hp 0 _ rfl);have ex0:p0=_:=ex0;subst ex0;obtain ⟨x1,ex1,hx1⟩:=yw (k:=.i64) (by kernel_rfl) (hp 1 _ rfl);have ex1:p1=_:=ex1;subst ex1;obtain ⟨x2,ex2,hx2⟩:=yw (k:=.i64) (by kernel_rfl) (hp 2 _ rfl);have ex2:p2=_:=ex2;subst ex2;obtain ⟨x3,ex3,hx3⟩:=yw (k:=.i64) (by kernel_rfl) (hp 3 _ rfl);have ex3:p3=_:=ex3;subst ex3;obtain ⟨x4,ex4,hx4⟩:=yw (k:=.i64) (by kernel_rfl) (hp 4 _ rfl);have ex4:p4=_:=ex4;subst ex4;obtain ⟨x5,ex5,kx5,lx5,mx5⟩:=kf (g:=(AV.int .i64)) (w:=fun y=>InK .i64 y) (by kernel_rfl) (fun d p hp=>by obtain ⟨x5i,ex5i,hx5i⟩:=yw (k:=.i64) (by kernel_rfl) hp;subst ex5i;exact⟨x5i,by rw[show yf Tryz.prog 3=false by kernel_rfl];rfl,hx5i⟩) (hp 5 _ rfl);have hx5:=And.intro mx5 (And.intro kx5 (show x5.length*8<=reachBytes by rw[show Tryz.prog.bytesOf 3=8 by kernel_rfl] at lx5;exact lx5));have ex5:p5=_:=ex5;subst ex5;obtain ⟨x6,ex6,hx6⟩:=yw (k:=.i64) (by kernel_rfl) (hp 6 _ rfl);have ex6:p6=_:=ex6;subst ex6;obtain ⟨x7,ex7⟩:=PM (by kernel_rfl) (hp 7 _ rfl);have hx7:True:=True.intro;have ex7:p7=_:=ex7;subst ex7;obtain ⟨x8,ex8,hx8⟩:=yw (k:=.i64) (by kernel_rfl) (hp 8 _ rfl);have ex8:p8=_:=ex8;subst ex8;exact⟨⟨x0,x1,x2,x3,x4,x5,x6,x7,x8⟩,rfl,hx0,hx1,hx2,hx3,hx4,hx5,hx6,hx7,hx8⟩
def TRoTask.Ok (x:TRoTask):Prop:=(x.City.Ok)/\(InK .i64 x.Day)/\(InK .i64 x.X)/\(InK .i64 x.Y)/\(InK .i64 x.Pace)/\((∀y∈x.Kinds,y.Ok)/\x.Kinds.length<=maxLen/\x.Kinds.length*16<=reachBytes)/\((∀y∈x.Closures,y.Ok)/\x.Closures.length<=maxLen/\x.Closures.length*16<=reachBytes)/\((∀y∈x.Lorries,y.Ok)/\x.Lorries.length<=maxLen/\x.Lorries.length*56<=reachBytes)/\((∀y∈x.Jobs,y.Ok)/\x.Jobs.length<=maxLen/\x.Jobs.length*96<=reachBytes)
theorem zbA {d:Nat} {cs:List AV} (h:yE Tryz.prog d 31 cs):∃x:TRoTask,cs=x.cs/\x.Ok:=by
 obtain ⟨d1,ps,rfl,hl,hp⟩:=jc (tys:=[25,3,3,3,3,26,27,28,29]) (by kernel_rfl) h;match ps,hl with
 |[p0,p1,p2,p3,p4,p5,p6,p7,p8],_ =>
  obtain ⟨x0,ex0,hx0⟩:=zbz (hp 0 _ rfl);have ex0:p0=_:=ex0;subst ex0;obtain ⟨x1,ex1,hx1⟩:=yw (k:=.i64) (by kernel_rfl) (hp 1 _ rfl);have ex1:p1=_:=ex1;subst ex1;obtain ⟨x2,ex2,hx2⟩:=yw (k:=.i64) (by kernel_rfl) (hp 2 _ rfl);have ex2:p2=_:=ex2;subst ex2;obtain ⟨x3,ex3,hx3⟩:=yw (k:=.i64) (by kernel_rfl) (hp 3 _ rfl);have ex3:p3=_:=ex3;subst ex3;obtain ⟨x4,ex4,hx4⟩:=yw (k:=.i64) (by kernel_rfl) (hp 4 _ rfl);have ex4:p4=_:=ex4;subst ex4;obtain ⟨x5,ex5,kx5,lx5,mx5⟩:=kf (g:=TRoKind.av) (w:=fun y=>y.Ok) (by kernel_rfl) (fun d p hp=>by obtain ⟨x5i,ex5i,hx5i⟩:=zbC hp;subst ex5i;exact⟨x5i,by rw[if_pos (show yf Tryz.prog 68=true by kernel_rfl)];rfl,hx5i⟩) (hp 5 _ rfl);have hx5:=And.intro mx5 (And.intro kx5 (show x5.length*16<=reachBytes by rw[show Tryz.prog.bytesOf 68=16 by kernel_rfl] at lx5;exact lx5));have ex5:p5=_:=ex5;subst ex5;obtain ⟨x6,ex6,kx6,lx6,mx6⟩:=kf (g:=TRoSpan.av) (w:=fun y=>y.Ok) (by kernel_rfl) (fun d p hp=>by obtain ⟨x6i,ex6i,hx6i⟩:=zbB hp;subst ex6i;exact⟨x6i,by rw[if_pos (show yf Tryz.prog 39=true by kernel_rfl)];rfl,hx6i⟩) (hp 6 _ rfl);have hx6:=And.intro mx6 (And.intro kx6 (show x6.length*16<=reachBytes by rw[show Tryz.prog.bytesOf 39=16 by kernel_rfl] at lx6;exact lx6));have ex6:p6=_:=ex6;subst ex6;obtain ⟨x7,ex7,kx7,lx7,mx7⟩:=kf (g:=TRoLorry.av) (w:=fun y=>y.Ok) (by kernel_rfl) (fun d p hp=>by obtain ⟨x7i,ex7i,hx7i⟩:=zbD hp;subst ex7i;exact⟨x7i,by rw[if_pos (show yf Tryz.prog 75=true by kernel_rfl)];rfl,hx7i⟩) (hp 7 _ rfl);have hx7:=And.intro mx7 (And.intro kx7 (show x7.length*56<=reachBytes by rw[show Tryz.prog.bytesOf 75=56 by kernel_rfl] at lx7;exact lx7));have ex7:p7=_:=ex7;subst ex7;obtain ⟨x8,ex8,kx8,lx8,mx8⟩:=kf (g:=TRoJob.av) (w:=fun y=>y.Ok) (by kernel_rfl) (fun d p hp=>by obtain ⟨x8i,ex8i,hx8i⟩:=zbE hp;subst ex8i;exact⟨x8i,by rw[if_pos (show yf Tryz.prog 80=true by kernel_rfl)];rfl,hx8i⟩) (hp 8 _ rfl);have hx8:=And.intro mx8 (And.intro kx8 (show x8.length*96<=reachBytes by rw[show Tryz.prog.bytesOf 80=96 by kernel_rfl] at lx8;exact lx8));have ex8:p8=_:=ex8;subst ex8;exact⟨⟨x0,x1,x2,x3,x4,x5,x6,x7,x8⟩,rfl,hx0,hx1,hx2,hx3,hx4,hx5,hx6,hx7,hx8⟩
abbrev QT:List (String × DataW Unit):=[("linkboy/round.never", Rows.laid_linkboy_round_never)]
theorem L2:Tryz.prog.globalNamed "linkboy/round.never"=some 0:=by kernel_rfl
theorem H3:(Tryz.prog.globals[0]?).map (·.type)=some 39:=by kernel_rfl
theorem MN {l:List Value} {a b:Value} (h:l.length=2) (h0:(l.drop 0).take 1=[a]) (h1:(l.drop 1).take 1=[b]):l=[a,b]:=by
 match l,h,h0,h1 with
 |[x,y],_,h0,h1 =>
  have h0:[x]=[a]:=h0;have h1:[y]=[b]:=h1;rw[(List.cons.inj h0).1,(List.cons.inj h1).1]
theorem P9 {W:World} (h:laidMetH Tryz.prog QT W):kJ (kv W):=by
 rw[MakeChecks.laidMetH_plain _ _ _ (by kernel_rfl)] at h;obtain ⟨ps,⟨g0,t0,cs0,f0,p0,q0,hg0,ht0,hv0,hd0,_,_⟩,_,_⟩:=h;obtain rfl:=Option.some.inj (L2.symm.trans hg0);obtain rfl:=Option.some.inj (H3.symm.trans ht0);have hu:=Tryz.underlying39;have hi:Tryz.prog.underlying 3=some (.int .i64):=by kernel_rfl
 have c1:Tryz.prog.cellsOf 3=1:=by kernel_rfl
 have c2:Tryz.prog.cellsOf 39=2:=by kernel_rfl
 obtain ⟨xs,n,rfl,hx,hl,hn,hel⟩:=DataW.trod_struct hu hd0;have e0:DataW.trod (fun _=>()) Tryz.prog W 0 (fun _=>true) false n 3 ((cs0.toList.drop 0).take (Tryz.prog.cellsOf 3))=xs[0]?:=hel 0 _ rfl;have e1:DataW.trod (fun _=>()) Tryz.prog W 0 (fun _=>true) false n 3 ((cs0.toList.drop 1).take (Tryz.prog.cellsOf 3))=xs[1]?:=hel 1 _ rfl;have hxs:xs.map (·.1)=[.lit (.int .i64 1),.lit (.int .i64 0)]:=by
  have:=(Prod.mk.inj hx).1;exact(DataW.agg.inj this).symm
 match xs,hn,hxs,e0,e1 with
 |[x0,x1],_,hxs,e0,e1 =>
  obtain ⟨k0,s0,t0,_⟩:=DataW.trod_int (x:=x0) hi e0;obtain ⟨k1,s1,t1,_⟩:=DataW.trod_int (x:=x1) hi e1;subst t0;subst t1;simp only[List.map_cons,List.map_nil,List.cons.injEq,DataW.lit.injEq,Lit.int.injEq,true_and,and_true] at hxs;obtain ⟨rfl,rfl⟩:=hxs;rw[c1] at s0 s1;rw[c2] at hl;have hc:cs0=#[Value.int .i64 1,Value.int .i64 0]:=by
   have:=MN hl s0 s1;exact Array.toList_inj.1 this
  subst hc;clear hd0 hel e0 e1 hx hl s0 s1;intro g cs hg;unfold W9 at hg;split at hg
  case isFalse=>cases hg
  rename_i hg0;subst hg0;cases hg;refine⟨fun j=>if j=0 then .int .i64 1 else .int .i64 0,fun j hj=>?_,fun j=>?_⟩
  ·have:=World.var?_cell L2 hv0 j;match j,hj with
   |0,_=>exact uI this
   |1,_=>exact uI this
  ·match j with
   |0=>exact .int _ _ _
   |1=>exact .int _ _ _
   |j+2=>exact .undef _ _
noncomputable def TC (os:Os):World :=
 let w0:=World.holding Tryz.prog os ⟨#[],#[],[]⟩
 {w0 with heap:=w0.heap.modify 0 fun
   |.cells _ t frozen=>.cells #[.int .i64 1,.int .i64 0] t frozen
   |o=>o }
theorem U5 (os:Os) (args:Array Value):laidMetH Tryz.prog QT ((TC os).forCall (fun _ _=>0) ⟨#[],args,[]⟩).memory:=by
 rw[MakeChecks.laidMetH_plain _ _ _ (by kernel_rfl)];exact laidMet_of_run' 8 (by kernel_rfl) (by kernel_rfl)
end Go.Proofs.YtkojpnkknehhmaaGreatDoor

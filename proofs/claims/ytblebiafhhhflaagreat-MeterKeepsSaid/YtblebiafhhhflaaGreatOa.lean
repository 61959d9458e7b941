/- What comes into the laws, opened (printed by gen.lean). What comes in of an inventory is what the contracts ask. -/
import Derived.Test.YtblebiafhhhflaaGreatFr
import Derived.Test.YtblebiafhhhflaaGreatT
import Derived.Test.YtblebiafhhhflaaGreatHm
namespace Go.Proofs.YtblebiafhhhflaaGreat
open Go.RowKit
def InK (k:IntKind) (n:Int):Prop:=(Lit.int k n).wf = true
def TEncl.Ok (x:TEncl):Prop:=(InK .i64 x.Lo) ∧ (InK .i64 x.Hi)
theorem op23 {d:Nat} {cs:List AV} (h:CellsT Tryz.prog d 23 cs):∃ x:TEncl,cs = x.cs ∧ x.Ok:=by
 obtain ⟨d1,ps,rfl,hl,hp⟩:=cells_struct (tys:=[3,3]) (by kernel_rfl) h
 match ps,hl with
 | [p0,p1],_ =>
  obtain ⟨x0,ex0,hx0⟩:=cells_int (k:=.i64) (by kernel_rfl) (hp 0 _ rfl)
  have ex0:p0 = _:=ex0
  subst ex0
  obtain ⟨x1,ex1,hx1⟩:=cells_int (k:=.i64) (by kernel_rfl) (hp 1 _ rfl)
  have ex1:p1 = _:=ex1
  subst ex1
  exact ⟨⟨x0,x1⟩,rfl,hx0,hx1⟩

def TSnCity.Ok (x:TSnCity):Prop:=(InK .i64 x.Lat) ∧ (InK .i64 x.Lon) ∧ (InK .i64 x.Zone) ∧ (x.Altitude.Ok)
theorem op25 {d:Nat} {cs:List AV} (h:CellsT Tryz.prog d 25 cs):∃ x:TSnCity,cs = x.cs ∧ x.Ok:=by
 obtain ⟨d1,ps,rfl,hl,hp⟩:=cells_struct (tys:=[3,3,3,23]) (by kernel_rfl) h
 match ps,hl with
 | [p0,p1,p2,p3],_ =>
  obtain ⟨x0,ex0,hx0⟩:=cells_int (k:=.i64) (by kernel_rfl) (hp 0 _ rfl)
  have ex0:p0 = _:=ex0
  subst ex0
  obtain ⟨x1,ex1,hx1⟩:=cells_int (k:=.i64) (by kernel_rfl) (hp 1 _ rfl)
  have ex1:p1 = _:=ex1
  subst ex1
  obtain ⟨x2,ex2,hx2⟩:=cells_int (k:=.i64) (by kernel_rfl) (hp 2 _ rfl)
  have ex2:p2 = _:=ex2
  subst ex2
  obtain ⟨x3,ex3,hx3⟩:=op23 (hp 3 _ rfl)
  have ex3:p3 = _:=ex3
  subst ex3
  exact ⟨⟨x0,x1,x2,x3⟩,rfl,hx0,hx1,hx2,hx3⟩

def TLmTable.Ok (x:TLmTable):Prop:=(x.Name.size ≤ maxLen) ∧ ((∀ y ∈ x.Us,InK .i64 y) ∧ x.Us.length ≤ maxLen ∧ x.Us.length * 8 ≤ reachBytes) ∧ ((∀ y ∈ x.Vs,InK .i64 y) ∧ x.Vs.length ≤ maxLen ∧ x.Vs.length * 8 ≤ reachBytes) ∧ ((∀ y ∈ x.Values,(∀ y' ∈ y,InK .i64 y') ∧ y.length ≤ maxLen ∧ y.length * 8 ≤ reachBytes) ∧ x.Values.length ≤ maxLen ∧ x.Values.length * 24 ≤ reachBytes) ∧ (InK .i64 x.Side) ∧ (InK .i64 x.Sky)
theorem op135 {d:Nat} {cs:List AV} (h:CellsT Tryz.prog d 135 cs):∃ x:TLmTable,cs = x.cs ∧ x.Ok:=by
 obtain ⟨d1,ps,rfl,hl,hp⟩:=cells_struct (tys:=[9,61,61,133,3,3]) (by kernel_rfl) h
 match ps,hl with
 | [p0,p1,p2,p3,p4,p5],_ =>
  obtain ⟨x0,ex0,hx0⟩:=cells_string (by kernel_rfl) (hp 0 _ rfl)
  have ex0:p0 = _:=ex0
  subst ex0
  obtain ⟨x1,ex1,kx1,lx1,mx1⟩:=cells_sliceR (g:=(AV.int .i64)) (w:=fun y => InK .i64 y) (by kernel_rfl) (fun d p hp => by obtain ⟨x1i,ex1i,hx1i⟩:=cells_int (k:=.i64) (by kernel_rfl) hp; subst ex1i; exact ⟨x1i,by rw [show isAggT Tryz.prog 3 = false by kernel_rfl]; rfl,hx1i⟩) (hp 1 _ rfl); have hx1:=And.intro mx1 (And.intro kx1 (show x1.length * 8 ≤ reachBytes by rw [show Tryz.prog.bytesOf 3 = 8 by kernel_rfl] at lx1; exact lx1))
  have ex1:p1 = _:=ex1
  subst ex1
  obtain ⟨x2,ex2,kx2,lx2,mx2⟩:=cells_sliceR (g:=(AV.int .i64)) (w:=fun y => InK .i64 y) (by kernel_rfl) (fun d p hp => by obtain ⟨x2i,ex2i,hx2i⟩:=cells_int (k:=.i64) (by kernel_rfl) hp; subst ex2i; exact ⟨x2i,by rw [show isAggT Tryz.prog 3 = false by kernel_rfl]; rfl,hx2i⟩) (hp 2 _ rfl); have hx2:=And.intro mx2 (And.intro kx2 (show x2.length * 8 ≤ reachBytes by rw [show Tryz.prog.bytesOf 3 = 8 by kernel_rfl] at lx2; exact lx2))
  have ex2:p2 = _:=ex2
  subst ex2
  obtain ⟨x3,ex3,kx3,lx3,mx3⟩:=cells_sliceR (g:=(fun x => .slc 3 (List.map (AV.int .i64) x))) (w:=fun y => (∀ y' ∈ y,InK .i64 y') ∧ y.length ≤ maxLen ∧ y.length * 8 ≤ reachBytes) (by kernel_rfl) (fun d p hp => by obtain ⟨x3i,ex3i,kx3i,lx3i,mx3i⟩:=cells_sliceR (g:=(AV.int .i64)) (w:=fun y => InK .i64 y) (by kernel_rfl) (fun d p hp => by obtain ⟨x3ii,ex3ii,hx3ii⟩:=cells_int (k:=.i64) (by kernel_rfl) hp; subst ex3ii; exact ⟨x3ii,by rw [show isAggT Tryz.prog 3 = false by kernel_rfl]; rfl,hx3ii⟩) hp; have hx3i:=And.intro mx3i (And.intro kx3i (show x3i.length * 8 ≤ reachBytes by rw [show Tryz.prog.bytesOf 3 = 8 by kernel_rfl] at lx3i; exact lx3i)); subst ex3i; exact ⟨x3i,by rw [show isAggT Tryz.prog 61 = false by kernel_rfl]; rfl,hx3i⟩) (hp 3 _ rfl); have hx3:=And.intro mx3 (And.intro kx3 (show x3.length * 24 ≤ reachBytes by rw [show Tryz.prog.bytesOf 61 = 24 by kernel_rfl] at lx3; exact lx3))
  have ex3:p3 = _:=ex3
  subst ex3
  obtain ⟨x4,ex4,hx4⟩:=cells_int (k:=.i64) (by kernel_rfl) (hp 4 _ rfl)
  have ex4:p4 = _:=ex4
  subst ex4
  obtain ⟨x5,ex5,hx5⟩:=cells_int (k:=.i64) (by kernel_rfl) (hp 5 _ rfl)
  have ex5:p5 = _:=ex5
  subst ex5
  exact ⟨⟨x0,x1,x2,x3,x4,x5⟩,rfl,hx0,hx1,hx2,hx3,hx4,hx5⟩

def TLmLamp.Ok (x:TLmLamp):Prop:=(x.Name.size ≤ maxLen) ∧ (InK .i64 x.Table) ∧ (InK .i64 x.Kind) ∧ (InK .i64 x.Lumens) ∧ (InK .i64 x.Power) ∧ (InK .i64 x.Standing) ∧ (InK .i64 x.Tolerance) ∧ (x.Ageing.Ok) ∧ (x.Dirt.Ok) ∧ (InK .i64 x.Life) ∧ (InK .i64 x.Dim) ∧ (InK .i64 x.Restrike)
theorem op64 {d:Nat} {cs:List AV} (h:CellsT Tryz.prog d 64 cs):∃ x:TLmLamp,cs = x.cs ∧ x.Ok:=by
 obtain ⟨d1,ps,rfl,hl,hp⟩:=cells_struct (tys:=[9,3,3,3,3,3,3,23,23,3,3,3]) (by kernel_rfl) h
 match ps,hl with
 | [p0,p1,p2,p3,p4,p5,p6,p7,p8,p9,p10,p11],_ =>
  obtain ⟨x0,ex0,hx0⟩:=cells_string (by kernel_rfl) (hp 0 _ rfl)
  have ex0:p0 = _:=ex0
  subst ex0
  obtain ⟨x1,ex1,hx1⟩:=cells_int (k:=.i64) (by kernel_rfl) (hp 1 _ rfl)
  have ex1:p1 = _:=ex1
  subst ex1
  obtain ⟨x2,ex2,hx2⟩:=cells_int (k:=.i64) (by kernel_rfl) (hp 2 _ rfl)
  have ex2:p2 = _:=ex2
  subst ex2
  obtain ⟨x3,ex3,hx3⟩:=cells_int (k:=.i64) (by kernel_rfl) (hp 3 _ rfl)
  have ex3:p3 = _:=ex3
  subst ex3
  obtain ⟨x4,ex4,hx4⟩:=cells_int (k:=.i64) (by kernel_rfl) (hp 4 _ rfl)
  have ex4:p4 = _:=ex4
  subst ex4
  obtain ⟨x5,ex5,hx5⟩:=cells_int (k:=.i64) (by kernel_rfl) (hp 5 _ rfl)
  have ex5:p5 = _:=ex5
  subst ex5
  obtain ⟨x6,ex6,hx6⟩:=cells_int (k:=.i64) (by kernel_rfl) (hp 6 _ rfl)
  have ex6:p6 = _:=ex6
  subst ex6
  obtain ⟨x7,ex7,hx7⟩:=op23 (hp 7 _ rfl)
  have ex7:p7 = _:=ex7
  subst ex7
  obtain ⟨x8,ex8,hx8⟩:=op23 (hp 8 _ rfl)
  have ex8:p8 = _:=ex8
  subst ex8
  obtain ⟨x9,ex9,hx9⟩:=cells_int (k:=.i64) (by kernel_rfl) (hp 9 _ rfl)
  have ex9:p9 = _:=ex9
  subst ex9
  obtain ⟨x10,ex10,hx10⟩:=cells_int (k:=.i64) (by kernel_rfl) (hp 10 _ rfl)
  have ex10:p10 = _:=ex10
  subst ex10
  obtain ⟨x11,ex11,hx11⟩:=cells_int (k:=.i64) (by kernel_rfl) (hp 11 _ rfl)
  have ex11:p11 = _:=ex11
  subst ex11
  exact ⟨⟨x0,x1,x2,x3,x4,x5,x6,x7,x8,x9,x10,x11⟩,rfl,hx0,hx1,hx2,hx3,hx4,hx5,hx6,hx7,hx8,hx9,hx10,hx11⟩

def TLmCatalog.Ok (x:TLmCatalog):Prop:=((∀ y ∈ x.Tables,y.Ok) ∧ x.Tables.length ≤ maxLen ∧ x.Tables.length * 104 ≤ reachBytes) ∧ ((∀ y ∈ x.Lamps,y.Ok) ∧ x.Lamps.length ≤ maxLen ∧ x.Lamps.length * 120 ≤ reachBytes)
theorem op29 {d:Nat} {cs:List AV} (h:CellsT Tryz.prog d 29 cs):∃ x:TLmCatalog,cs = x.cs ∧ x.Ok:=by
 obtain ⟨d1,ps,rfl,hl,hp⟩:=cells_struct (tys:=[26,27]) (by kernel_rfl) h
 match ps,hl with
 | [p0,p1],_ =>
  obtain ⟨x0,ex0,kx0,lx0,mx0⟩:=cells_sliceR (g:=TLmTable.av) (w:=fun y => y.Ok) (by kernel_rfl) (fun d p hp => by obtain ⟨x0i,ex0i,hx0i⟩:=op135 hp; subst ex0i; exact ⟨x0i,by rw [if_pos (show isAggT Tryz.prog 135 = true by kernel_rfl)]; rfl,hx0i⟩) (hp 0 _ rfl); have hx0:=And.intro mx0 (And.intro kx0 (show x0.length * 104 ≤ reachBytes by rw [show Tryz.prog.bytesOf 135 = 104 by kernel_rfl] at lx0; exact lx0))
  have ex0:p0 = _:=ex0
  subst ex0
  obtain ⟨x1,ex1,kx1,lx1,mx1⟩:=cells_sliceR (g:=TLmLamp.av) (w:=fun y => y.Ok) (by kernel_rfl) (fun d p hp => by obtain ⟨x1i,ex1i,hx1i⟩:=op64 hp; subst ex1i; exact ⟨x1i,by rw [if_pos (show isAggT Tryz.prog 64 = true by kernel_rfl)]; rfl,hx1i⟩) (hp 1 _ rfl); have hx1:=And.intro mx1 (And.intro kx1 (show x1.length * 120 ≤ reachBytes by rw [show Tryz.prog.bytesOf 64 = 120 by kernel_rfl] at lx1; exact lx1))
  have ex1:p1 = _:=ex1
  subst ex1
  exact ⟨⟨x0,x1⟩,rfl,hx0,hx1⟩

def TMtStep.Ok (x:TMtStep):Prop:=(InK .i64 x.From) ∧ (InK .i64 x.Level)
theorem op52 {d:Nat} {cs:List AV} (h:CellsT Tryz.prog d 52 cs):∃ x:TMtStep,cs = x.cs ∧ x.Ok:=by
 obtain ⟨d1,ps,rfl,hl,hp⟩:=cells_struct (tys:=[3,3]) (by kernel_rfl) h
 match ps,hl with
 | [p0,p1],_ =>
  obtain ⟨x0,ex0,hx0⟩:=cells_int (k:=.i64) (by kernel_rfl) (hp 0 _ rfl)
  have ex0:p0 = _:=ex0
  subst ex0
  obtain ⟨x1,ex1,hx1⟩:=cells_int (k:=.i64) (by kernel_rfl) (hp 1 _ rfl)
  have ex1:p1 = _:=ex1
  subst ex1
  exact ⟨⟨x0,x1⟩,rfl,hx0,hx1⟩

def TMtProfile.Ok (x:TMtProfile):Prop:=(x.Name.size ≤ maxLen) ∧ ((∀ y ∈ x.Steps,y.Ok) ∧ x.Steps.length ≤ maxLen ∧ x.Steps.length * 16 ≤ reachBytes)
theorem op50 {d:Nat} {cs:List AV} (h:CellsT Tryz.prog d 50 cs):∃ x:TMtProfile,cs = x.cs ∧ x.Ok:=by
 obtain ⟨d1,ps,rfl,hl,hp⟩:=cells_struct (tys:=[9,48]) (by kernel_rfl) h
 match ps,hl with
 | [p0,p1],_ =>
  obtain ⟨x0,ex0,hx0⟩:=cells_string (by kernel_rfl) (hp 0 _ rfl)
  have ex0:p0 = _:=ex0
  subst ex0
  obtain ⟨x1,ex1,kx1,lx1,mx1⟩:=cells_sliceR (g:=TMtStep.av) (w:=fun y => y.Ok) (by kernel_rfl) (fun d p hp => by obtain ⟨x1i,ex1i,hx1i⟩:=op52 hp; subst ex1i; exact ⟨x1i,by rw [if_pos (show isAggT Tryz.prog 52 = true by kernel_rfl)]; rfl,hx1i⟩) (hp 1 _ rfl); have hx1:=And.intro mx1 (And.intro kx1 (show x1.length * 16 ≤ reachBytes by rw [show Tryz.prog.bytesOf 52 = 16 by kernel_rfl] at lx1; exact lx1))
  have ex1:p1 = _:=ex1
  subst ex1
  exact ⟨⟨x0,x1⟩,rfl,hx0,hx1⟩

def TMtItem.Ok (x:TMtItem):Prop:=(x.Name.size ≤ maxLen) ∧ (InK .i64 x.Lamp) ∧ (InK .i64 x.Count) ∧ (InK .i64 x.Profile) ∧ (InK .i64 x.Meter) ∧ (InK .i64 x.Declared) ∧ (InK .i64 x.From) ∧ (InK .i64 x.Until)
theorem op44 {d:Nat} {cs:List AV} (h:CellsT Tryz.prog d 44 cs):∃ x:TMtItem,cs = x.cs ∧ x.Ok:=by
 obtain ⟨d1,ps,rfl,hl,hp⟩:=cells_struct (tys:=[9,3,3,3,3,3,3,3]) (by kernel_rfl) h
 match ps,hl with
 | [p0,p1,p2,p3,p4,p5,p6,p7],_ =>
  obtain ⟨x0,ex0,hx0⟩:=cells_string (by kernel_rfl) (hp 0 _ rfl)
  have ex0:p0 = _:=ex0
  subst ex0
  obtain ⟨x1,ex1,hx1⟩:=cells_int (k:=.i64) (by kernel_rfl) (hp 1 _ rfl)
  have ex1:p1 = _:=ex1
  subst ex1
  obtain ⟨x2,ex2,hx2⟩:=cells_int (k:=.i64) (by kernel_rfl) (hp 2 _ rfl)
  have ex2:p2 = _:=ex2
  subst ex2
  obtain ⟨x3,ex3,hx3⟩:=cells_int (k:=.i64) (by kernel_rfl) (hp 3 _ rfl)
  have ex3:p3 = _:=ex3
  subst ex3
  obtain ⟨x4,ex4,hx4⟩:=cells_int (k:=.i64) (by kernel_rfl) (hp 4 _ rfl)
  have ex4:p4 = _:=ex4
  subst ex4
  obtain ⟨x5,ex5,hx5⟩:=cells_int (k:=.i64) (by kernel_rfl) (hp 5 _ rfl)
  have ex5:p5 = _:=ex5
  subst ex5
  obtain ⟨x6,ex6,hx6⟩:=cells_int (k:=.i64) (by kernel_rfl) (hp 6 _ rfl)
  have ex6:p6 = _:=ex6
  subst ex6
  obtain ⟨x7,ex7,hx7⟩:=cells_int (k:=.i64) (by kernel_rfl) (hp 7 _ rfl)
  have ex7:p7 = _:=ex7
  subst ex7
  exact ⟨⟨x0,x1,x2,x3,x4,x5,x6,x7⟩,rfl,hx0,hx1,hx2,hx3,hx4,hx5,hx6,hx7⟩

def TMtReading.Ok (x:TMtReading):Prop:=(InK .i64 x.Day) ∧ (InK .i64 x.Value)
theorem op108 {d:Nat} {cs:List AV} (h:CellsT Tryz.prog d 108 cs):∃ x:TMtReading,cs = x.cs ∧ x.Ok:=by
 obtain ⟨d1,ps,rfl,hl,hp⟩:=cells_struct (tys:=[3,3]) (by kernel_rfl) h
 match ps,hl with
 | [p0,p1],_ =>
  obtain ⟨x0,ex0,hx0⟩:=cells_int (k:=.i64) (by kernel_rfl) (hp 0 _ rfl)
  have ex0:p0 = _:=ex0
  subst ex0
  obtain ⟨x1,ex1,hx1⟩:=cells_int (k:=.i64) (by kernel_rfl) (hp 1 _ rfl)
  have ex1:p1 = _:=ex1
  subst ex1
  exact ⟨⟨x0,x1⟩,rfl,hx0,hx1⟩

def TMtMeter.Ok (x:TMtMeter):Prop:=(x.Name.size ≤ maxLen) ∧ (InK .i64 x.Step) ∧ (InK .i64 x.Modulus) ∧ (InK .i64 x.Error) ∧ ((∀ y ∈ x.Readings,y.Ok) ∧ x.Readings.length ≤ maxLen ∧ x.Readings.length * 16 ≤ reachBytes)
theorem op106 {d:Nat} {cs:List AV} (h:CellsT Tryz.prog d 106 cs):∃ x:TMtMeter,cs = x.cs ∧ x.Ok:=by
 obtain ⟨d1,ps,rfl,hl,hp⟩:=cells_struct (tys:=[9,3,3,3,104]) (by kernel_rfl) h
 match ps,hl with
 | [p0,p1,p2,p3,p4],_ =>
  obtain ⟨x0,ex0,hx0⟩:=cells_string (by kernel_rfl) (hp 0 _ rfl)
  have ex0:p0 = _:=ex0
  subst ex0
  obtain ⟨x1,ex1,hx1⟩:=cells_int (k:=.i64) (by kernel_rfl) (hp 1 _ rfl)
  have ex1:p1 = _:=ex1
  subst ex1
  obtain ⟨x2,ex2,hx2⟩:=cells_int (k:=.i64) (by kernel_rfl) (hp 2 _ rfl)
  have ex2:p2 = _:=ex2
  subst ex2
  obtain ⟨x3,ex3,hx3⟩:=cells_int (k:=.i64) (by kernel_rfl) (hp 3 _ rfl)
  have ex3:p3 = _:=ex3
  subst ex3
  obtain ⟨x4,ex4,kx4,lx4,mx4⟩:=cells_sliceR (g:=TMtReading.av) (w:=fun y => y.Ok) (by kernel_rfl) (fun d p hp => by obtain ⟨x4i,ex4i,hx4i⟩:=op108 hp; subst ex4i; exact ⟨x4i,by rw [if_pos (show isAggT Tryz.prog 108 = true by kernel_rfl)]; rfl,hx4i⟩) (hp 4 _ rfl); have hx4:=And.intro mx4 (And.intro kx4 (show x4.length * 16 ≤ reachBytes by rw [show Tryz.prog.bytesOf 108 = 16 by kernel_rfl] at lx4; exact lx4))
  have ex4:p4 = _:=ex4
  subst ex4
  exact ⟨⟨x0,x1,x2,x3,x4⟩,rfl,hx0,hx1,hx2,hx3,hx4⟩

def TMtTask.Ok (x:TMtTask):Prop:=(x.City.Ok) ∧ (x.Catalog.Ok) ∧ ((∀ y ∈ x.Profiles,y.Ok) ∧ x.Profiles.length ≤ maxLen ∧ x.Profiles.length * 40 ≤ reachBytes) ∧ ((∀ y ∈ x.Items,y.Ok) ∧ x.Items.length ≤ maxLen ∧ x.Items.length * 72 ≤ reachBytes) ∧ ((∀ y ∈ x.Meters,y.Ok) ∧ x.Meters.length ≤ maxLen ∧ x.Meters.length * 64 ≤ reachBytes)
theorem op34 {d:Nat} {cs:List AV} (h:CellsT Tryz.prog d 34 cs):∃ x:TMtTask,cs = x.cs ∧ x.Ok:=by
 obtain ⟨d1,ps,rfl,hl,hp⟩:=cells_struct (tys:=[25,29,30,31,32]) (by kernel_rfl) h
 match ps,hl with
 | [p0,p1,p2,p3,p4],_ =>
  obtain ⟨x0,ex0,hx0⟩:=op25 (hp 0 _ rfl)
  have ex0:p0 = _:=ex0
  subst ex0
  obtain ⟨x1,ex1,hx1⟩:=op29 (hp 1 _ rfl)
  have ex1:p1 = _:=ex1
  subst ex1
  obtain ⟨x2,ex2,kx2,lx2,mx2⟩:=cells_sliceR (g:=TMtProfile.av) (w:=fun y => y.Ok) (by kernel_rfl) (fun d p hp => by obtain ⟨x2i,ex2i,hx2i⟩:=op50 hp; subst ex2i; exact ⟨x2i,by rw [if_pos (show isAggT Tryz.prog 50 = true by kernel_rfl)]; rfl,hx2i⟩) (hp 2 _ rfl); have hx2:=And.intro mx2 (And.intro kx2 (show x2.length * 40 ≤ reachBytes by rw [show Tryz.prog.bytesOf 50 = 40 by kernel_rfl] at lx2; exact lx2))
  have ex2:p2 = _:=ex2
  subst ex2
  obtain ⟨x3,ex3,kx3,lx3,mx3⟩:=cells_sliceR (g:=TMtItem.av) (w:=fun y => y.Ok) (by kernel_rfl) (fun d p hp => by obtain ⟨x3i,ex3i,hx3i⟩:=op44 hp; subst ex3i; exact ⟨x3i,by rw [if_pos (show isAggT Tryz.prog 44 = true by kernel_rfl)]; rfl,hx3i⟩) (hp 3 _ rfl); have hx3:=And.intro mx3 (And.intro kx3 (show x3.length * 72 ≤ reachBytes by rw [show Tryz.prog.bytesOf 44 = 72 by kernel_rfl] at lx3; exact lx3))
  have ex3:p3 = _:=ex3
  subst ex3
  obtain ⟨x4,ex4,kx4,lx4,mx4⟩:=cells_sliceR (g:=TMtMeter.av) (w:=fun y => y.Ok) (by kernel_rfl) (fun d p hp => by obtain ⟨x4i,ex4i,hx4i⟩:=op106 hp; subst ex4i; exact ⟨x4i,by rw [if_pos (show isAggT Tryz.prog 106 = true by kernel_rfl)]; rfl,hx4i⟩) (hp 4 _ rfl); have hx4:=And.intro mx4 (And.intro kx4 (show x4.length * 64 ≤ reachBytes by rw [show Tryz.prog.bytesOf 106 = 64 by kernel_rfl] at lx4; exact lx4))
  have ex4:p4 = _:=ex4
  subst ex4
  exact ⟨⟨x0,x1,x2,x3,x4⟩,rfl,hx0,hx1,hx2,hx3,hx4⟩

def TAsk.Ok (x:TAsk):Prop:=(InK .i64 x.Index) ∧ (InK .i64 x.Day) ∧ (InK .i64 x.Second)
def TNew.Ok (x:TNew):Prop:=(InK .i64 x.Item) ∧ (InK .i64 x.Day) ∧ (InK .i64 x.Lamp) ∧ (x.Name.size ≤ maxLen)
theorem op81 {d:Nat} {cs:List AV} (h:CellsT Tryz.prog d 81 cs):∃ x:TNew,cs = x.cs ∧ x.Ok:=by
 obtain ⟨d1,ps,rfl,hl,hp⟩:=cells_struct (tys:=[3,3,3,9]) (by kernel_rfl) h
 match ps,hl with
 | [p0,p1,p2,p3],_ =>
  obtain ⟨x0,ex0,hx0⟩:=cells_int (k:=.i64) (by kernel_rfl) (hp 0 _ rfl)
  have ex0:p0 = _:=ex0
  subst ex0
  obtain ⟨x1,ex1,hx1⟩:=cells_int (k:=.i64) (by kernel_rfl) (hp 1 _ rfl)
  have ex1:p1 = _:=ex1
  subst ex1
  obtain ⟨x2,ex2,hx2⟩:=cells_int (k:=.i64) (by kernel_rfl) (hp 2 _ rfl)
  have ex2:p2 = _:=ex2
  subst ex2
  obtain ⟨x3,ex3,hx3⟩:=cells_string (by kernel_rfl) (hp 3 _ rfl)
  have ex3:p3 = _:=ex3
  subst ex3
  exact ⟨⟨x0,x1,x2,x3⟩,rfl,hx0,hx1,hx2,hx3⟩

end Go.Proofs.YtblebiafhhhflaaGreat
namespace Go.Proofs.YtblebiafhhhflaaGreat
open Go.RowKit
theorem taskOK_of {t:TMtTask} (h:t.Ok):TaskOK t ∧ t.Items.length ≤ 2 ^ 43 ∧ t.Profiles.length ≤ 2 ^ 43 ∧ t.Meters.length ≤ 2 ^ 43:=by
 have e:reachBytes = 140737488351232:=by rfl
 have e2:maxLen = 9223372036854775807:=by rfl
 unfold TMtTask.Ok at h
 rw [e,e2] at h
 obtain ⟨_,hc,⟨hp,_,hpl⟩,⟨hi,_,hil⟩,⟨hm,_,hml⟩⟩:=h
 unfold TLmCatalog.Ok at hc
 rw [e,e2] at hc
 obtain ⟨⟨h1,h1a,h1b⟩,⟨h2,h2a,h2b⟩⟩:=hc
 refine ⟨⟨⟨fun x hx => ?_,fun x hx => ?_,by omega,by omega⟩,fun x hx => ?_,fun x hx => ?_,fun x hx => ?_,fun x hx => ?_⟩,by omega,by omega,by omega⟩
 ·have:=(h1 x hx).1; rw [e2] at this; exact this
 ·have:=(h2 x hx).1; rw [e2] at this; exact this
 ·have:=(hp x hx).1; rw [e2] at this; exact this
 ·have:=(hm x hx).1; rw [e2] at this; exact this
 ·have:=(hi x hx).1; rw [e2] at this; exact this
 ·have:=(hp x hx).2.2.2; rw [e] at this; omega
end Go.Proofs.YtblebiafhhhflaaGreat

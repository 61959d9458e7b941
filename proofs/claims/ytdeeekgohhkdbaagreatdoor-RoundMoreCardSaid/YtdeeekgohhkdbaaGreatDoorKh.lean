/- What comes into the laws, opened: by how much a lorry leaves earlier; what there is more. -/
import Derived.Test.YtdeeekgohhkdbaaGreatDoorQd
namespace Go.Proofs.YtdeeekgohhkdbaaGreatDoor
open Go.RowKit
theorem inU16 {n:Int} (h:(Lit.int .u16 n).wf = true):0 ≤ n ∧ n < 65536:=by
 simp [Lit.wf,IntKind.min,IntKind.max,IntKind.signed,IntKind.bits] at h
 omega
theorem inU8 {n:Int} (h:(Lit.int .u8 n).wf = true):0 ≤ n ∧ n < 256:=by
 simp [Lit.wf,IntKind.min,IntKind.max,IntKind.signed,IntKind.bits] at h
 omega
structure TMore.Ok (x:TMore):Prop where
 kind:0 ≤ x.Kind ∧ x.Kind < 256
 index:0 ≤ x.Index ∧ x.Index < 256
 by_:0 ≤ x.By ∧ x.By < 65536
 lorry:x.Lorry.Ok
 job:x.Job.Ok
theorem opMore {d:Nat} {cs:List AV} (h:CellsT Tryz.prog d 57 cs):∃ x:TMore,cs = x.cs ∧ x.Ok:=by
 obtain ⟨d1,ps,rfl,hl,hp⟩:=cells_struct (tys:=[5,5,42,49,55]) (by kernel_rfl) h
 match ps,hl with
 | [p0,p1,p2,p3,p4],_ =>
  obtain ⟨x0,ex0,hx0⟩:=cells_int (k:=.u8) (by kernel_rfl) (hp 0 _ rfl)
  have ex0:p0 = _:=ex0
  subst ex0
  obtain ⟨x1,ex1,hx1⟩:=cells_int (k:=.u8) (by kernel_rfl) (hp 1 _ rfl)
  have ex1:p1 = _:=ex1
  subst ex1
  obtain ⟨x2,ex2,hx2⟩:=cells_int (k:=.u16) (by kernel_rfl) (hp 2 _ rfl)
  have ex2:p2 = _:=ex2
  subst ex2
  obtain ⟨x3,ex3,hx3⟩:=op49 (hp 3 _ rfl)
  have ex3:p3 = _:=ex3
  subst ex3
  obtain ⟨x4,ex4,hx4⟩:=op55 (hp 4 _ rfl)
  have ex4:p4 = _:=ex4
  subst ex4
  exact ⟨⟨x0,x1,x2,x3,x4⟩,rfl,⟨inU8 hx0,inU8 hx1,inU16 hx2,hx3,hx4⟩⟩
end Go.Proofs.YtdeeekgohhkdbaaGreatDoor

/- What comes into the laws, opened: by how much a lorry leaves earlier; what there is more. -/
import Derived.Test.YtdeeekgohhkdbaaGreatDoorQd
namespace Go.Proofs.YtdeeekgohhkdbaaGreatDoor
open Go.RowKit
theorem inU16 {n:Int} (h:(Lit.int .u16 n).wf = true):0 ≤ n ∧ n < 65536:=by
 simp [Lit.wf,IntKind.min,IntKind.max,IntKind.signed,IntKind.bits] at h
 omega
theorem opLate {d:Nat} {cs:List AV} (h:CellsT Tryz.prog d 44 cs):∃ x:TLate,cs = x.cs ∧ x.Jobs.length ≤ 17592186043904 ∧ 0 ≤ x.By ∧ x.By < 65536:=by
 obtain ⟨d1,ps,rfl,hl,hp⟩:=cells_struct (tys:=[41,42]) (by kernel_rfl) h
 match ps,hl with
 | [p0,p1],_ =>
  obtain ⟨l,ex0,hx0⟩:=opInts (hp 0 _ rfl)
  have ex0:p0 = _:=ex0
  subst ex0
  obtain ⟨x1,ex1,hx1⟩:=cells_int (k:=.u16) (by kernel_rfl) (hp 1 _ rfl)
  have ex1:p1 = _:=ex1
  subst ex1
  have hr:reachBytes = 140737488351232:=by kernel_rfl
  have h16:=inU16 hx1
  exact ⟨⟨l,x1⟩,rfl,by show l.length ≤ _; omega,h16⟩
structure TMore.Ok (x:TMore):Prop where
 kind:0 ≤ x.Kind ∧ x.Kind < 256
 index:0 ≤ x.Index ∧ x.Index < 256
 by_:0 ≤ x.By ∧ x.By < 65536
 lorry:x.Lorry.Ok
 job:x.Job.Ok
end Go.Proofs.YtdeeekgohhkdbaaGreatDoor

/- Openers: lists of ints, pairs of small numbers. -/
import Derived.Test.YtdeeekgohhkdbaaGreatDoorOd
namespace Go.Proofs.YtdeeekgohhkdbaaGreatDoor
open Go.RowKit
theorem opInts {d:Nat} {cs:List AV} (h:CellsT Tryz.prog d 41 cs):∃ zs:List Int,cs = [.slc 3 (zs.map (AV.int .i64))]:=by
 obtain ⟨zs,e,_⟩:=cells_slice (g:=AV.int .i64) (by kernel_rfl) (fun d p hp => by obtain ⟨x,rfl,_⟩:=cells_int (k:=.i64) (by kernel_rfl) hp; exact ⟨x,by rw [show isAggT Tryz.prog 3 = false by kernel_rfl]; rfl⟩) h
 exact ⟨zs,e⟩
theorem opA2u {d:Nat} {cs:List AV} (h:CellsT Tryz.prog d 87 cs):∃ x:Int × Int,cs = [.int .u16 x.1,.int .u16 x.2] ∧ (0 ≤ x.1 ∧ x.1 < 65536) ∧ (0 ≤ x.2 ∧ x.2 < 65536):=by
 obtain ⟨d1,ps,rfl,hl,hp⟩:=cells_array (n:=2) (e:=42) (by kernel_rfl) h
 match ps,hl,hp with
 | [p0,p1],_,hp =>
  obtain ⟨x0,rfl,h0⟩:=cells_int (k:=.u16) (by kernel_rfl) (hp p0 (by simp))
  obtain ⟨x1,rfl,h1⟩:=cells_int (k:=.u16) (by kernel_rfl) (hp p1 (by simp))
  have key:∀ x:Int,(Lit.int .u16 x).wf = true → 0 ≤ x ∧ x < 65536:=fun x hx => by
   simp [Lit.wf,IntKind.min,IntKind.max,IntKind.signed,IntKind.bits] at hx
   omega
  exact ⟨(x0,x1),rfl,key x0 h0,key x1 h1⟩
end Go.Proofs.YtdeeekgohhkdbaaGreatDoor

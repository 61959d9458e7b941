/- Openers: lists of ints, pairs of small numbers. -/
import Derived.Test.YtdeeekgohhkdbaaGreatDoorOd
namespace Go.Proofs.YtdeeekgohhkdbaaGreatDoor
open Go.RowKit
theorem opInts {d:Nat} {cs:List AV} (h:CellsT Tryz.prog d 41 cs):∃ zs:List Int,cs = [.slc 3 (zs.map (AV.int .i64))]:=by
 obtain ⟨zs,e,_⟩:=cells_slice (g:=AV.int .i64) (by kernel_rfl) (fun d p hp => by obtain ⟨x,rfl,_⟩:=cells_int (k:=.i64) (by kernel_rfl) hp; exact ⟨x,by rw [show isAggT Tryz.prog 3 = false by kernel_rfl]; rfl⟩) h
 exact ⟨zs,e⟩
end Go.Proofs.YtdeeekgohhkdbaaGreatDoor

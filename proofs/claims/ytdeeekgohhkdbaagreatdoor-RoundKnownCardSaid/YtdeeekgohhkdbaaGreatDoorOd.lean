/- What comes into the laws, opened (printed by gen.lean): programmes. What comes into the laws, opened (printed by gen.lean): tasks. -/
import Derived.Test.YtdeeekgohhkdbaaGreatDoorT
namespace Go.Proofs.YtdeeekgohhkdbaaGreatDoor
open Go.RowKit
end Go.Proofs.YtdeeekgohhkdbaaGreatDoor

/- What comes into the laws. -/
import Derived.Test.YtdeeekgohhkdbaaGreatDoorT
namespace Go.Proofs.YtdeeekgohhkdbaaGreatDoor
open Go.RowKit
end Go.Proofs.YtdeeekgohhkdbaaGreatDoor

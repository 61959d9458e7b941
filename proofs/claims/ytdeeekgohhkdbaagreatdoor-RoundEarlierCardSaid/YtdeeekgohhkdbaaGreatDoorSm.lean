/- Contracts: ways and spans, as they are asked for. -/
import Derived.Test.YtdeeekgohhkdbaaGreatDoorSl
namespace Go.Proofs.YtdeeekgohhkdbaaGreatDoor
open Go.RowKit
end Go.Proofs.YtdeeekgohhkdbaaGreatDoor
